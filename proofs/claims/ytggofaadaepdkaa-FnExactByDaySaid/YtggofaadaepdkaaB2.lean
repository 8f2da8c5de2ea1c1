import Derived.Below
import Derived.Test.YtggofaadaepdkaaB1
/- Proof texts: library of a small machine over plain data. No condition. -/
set_option linter.unusedVariables false
set_option linter.unusedSimpArgs false
section
namespace Go.Refl
open Go Go.RowKit
variable {P : Program}
def EqIn (P : Program) (d : Nat) (t : TypeId) (ty : Ty) : Prop :=
  ∀ (x y : ty.den) (cs ds : List Value) (w : World) (F : Nat → Prop), Rep w F ty x cs → Rep w F ty y ds → (Op.equalIn d t (packV ty cs) (packV ty ds)).run P w = .ok (@decide _ (ty.decEq x y)) w
def fieldChk (P : Program) (rec : TypeId → Ty → Bool) (f : Field) (off : Nat) (ty : Ty) : Bool :=
  f.name != "_" && Nat.beq f.offset off && rec f.type ty && (!ty.isPair || (match P.info? f.type with
    | some i => Nat.beq i.size ty.size
    | none => false))
def chainChk (P : Program) (rec : TypeId → Ty → Bool) : List Field → Nat → Ty → Bool
  | [f], off, ty => fieldChk P rec f off ty
  | f :: g :: fs, off, .pair a b => fieldChk P rec f off a && chainChk P rec (g :: fs) (off + a.size) b
  | _, _, _ => false
def eqChk (P : Program) : Nat → TypeId → Ty → Bool
  | 0, _, _ => false
  | _ + 1, t, .int _ => match P.underlying t with
    | some (.int _) => true
    | _ => false
  | _ + 1, t, .bool => match P.underlying t with
    | some .bool => true
    | _ => false
  | _ + 1, t, .str => match P.underlying t with
    | some .string => true
    | _ => false
  | d + 1, t, .pair a b => match P.underlying t with
    | some (.struct fs) => !P.stoodInHeld t && chainChk P (eqChk P d) fs.toList 0 (.pair a b)
    | _ => false
  | _ + 1, _, .slice _ => false
theorem isAgg_run {t : TypeId} {w : World} {d : TypeDesc} (h : P.underlying t = some d) : (isAgg t).run P w = .ok (match d with | .struct _ | .array _ _ => true | _ => false) w := by
  simp only [isAgg, Sem.run_bind, run_underlying h, Result.andThen_ok]
  cases d <;> rfl
theorem extract_toList (xs : Array Value) (i j : Nat) : (xs.extract i j).toList = (xs.toList.drop i).take (j - i) := by simp
theorem part_run {rec : TypeId → Ty → Bool} (hrec : ∀ t ty, rec t ty = true → match ty with
    | .int _ => ∃ k, P.underlying t = some (.int k)
    | .bool => P.underlying t = some .bool
    | .str => P.underlying t = some .string
    | .pair _ _ => ∃ fs, P.underlying t = some (.struct fs)
    | .slice _ => False) {f : Field} {off : Nat} {ty : Ty} (hf : fieldChk P rec f off ty = true) {w : World} {F : Nat → Prop} {x : ty.den} {pre cs post : List Value} (hpre : pre.length = off) (hr : Rep w F ty x cs) :
    (part f.type (pre ++ cs ++ post).toArray f.offset).run P w = .ok (packV ty cs) w := by
  simp only [fieldChk, Bool.and_eq_true, Nat.beq_eq, Bool.or_eq_true, Bool.not_eq_true'] at hf
  obtain ⟨⟨⟨_, h2⟩, h3⟩, h4⟩ := hf
  have hk := hrec _ _ h3
  have hlen := Rep.length _ hr
  rw [h2]
  subst hpre
  have one : ∀ (v : Value), (isAgg f.type).run P w = .ok false w → cs = [v] → packV ty cs = v → (part f.type (pre ++ cs ++ post).toArray pre.length).run P w = .ok (packV ty cs) w := by
    intro v hd hcs hv
    simp only [part, Sem.run_bind, hd, Result.andThen_ok, Bool.false_eq_true, if_false]
    have : (pre ++ cs ++ post).toArray[pre.length]? = some v := by rw [hcs]; simp
    rw [this, hv]
    rfl
  cases ty with
  | int k => obtain ⟨k', hk⟩ := hk; simp only [Rep] at hr; exact one _ (isAgg_run hk) hr (by rw [hr]; rfl)
  | bool => simp only [Rep] at hr; exact one _ (isAgg_run hk) hr (by rw [hr]; rfl)
  | str => simp only [Rep] at hr; exact one _ (isAgg_run hk) hr (by rw [hr]; rfl)
  | slice e => exact hk.elim
  | pair a b =>
    obtain ⟨fs, hk⟩ := hk
    rcases h4 with h4 | h4
    · cases h4
    · split at h4
      · rename_i i hi
        rw [Nat.beq_eq] at h4
        have hty : (sizeOf f.type).run P w = .ok i.size w := by
          simp [sizeOf, typeInfo, hi]
        simp only [part, Sem.run_bind, isAgg_run hk, Result.andThen_ok, if_true, hty, Sem.run_pure]
        congr 1
        show Value.agg _ = Value.agg _
        congr 1
        apply Array.toList_inj.1
        rw [extract_toList, h4, ← hlen]
        simp
      · cases h4
theorem chain_run {d : Nat} {rec : TypeId → Ty → Bool} (hrec : ∀ t ty, rec t ty = true → match ty with
    | .int _ => ∃ k, P.underlying t = some (.int k)
    | .bool => P.underlying t = some .bool
    | .str => P.underlying t = some .string
    | .pair _ _ => ∃ fs, P.underlying t = some (.struct fs)
    | .slice _ => False) (heq : ∀ t ty, rec t ty = true → EqIn P d t ty) : ∀ (fs : List Field) (off : Nat) (ty : Ty), chainChk P rec fs off ty = true → ∀ (x y : ty.den) (px py cs ds : List Value) (w : World) (F : Nat → Prop), px.length = off → py.length = off → Rep w F ty x cs → Rep w F ty y ds →
    (Op.eqFields d (px ++ cs).toArray (py ++ ds).toArray fs).run P w = .ok (@decide _ (ty.decEq x y)) w
  | [f], off, ty, h, x, y, px, py, cs, ds, w, F, hx, hy, rx, ry => by
    have h' : fieldChk P rec f off ty = true := h
    have h1 := part_run hrec h' (post := []) hx rx
    have h2 := part_run hrec h' (post := []) hy ry
    rw [List.append_nil] at h1 h2
    simp only [fieldChk, Bool.and_eq_true, bne_iff_ne] at h'
    have h3 := heq _ _ h'.1.2 x y cs ds w F rx ry
    simp only [Op.eqFields]
    rw [if_pos h'.1.1.1]
    simp only [Sem.run_bind, h1, h2, h3, Result.andThen_ok]
    cases @decide _ (ty.decEq x y) <;> simp [Sem.run_pure]
  | f :: g :: fs, off, .pair a b, h, x, y, px, py, cs, ds, w, F, hx, hy, rx, ry => by
    simp only [chainChk, Bool.and_eq_true] at h
    obtain ⟨c1, c2, rfl, r1, r2⟩ := rx
    obtain ⟨d1, d2, rfl, q1, q2⟩ := ry
    have h1 := part_run hrec h.1 (post := c2) hx r1
    have h2 := part_run hrec h.1 (post := d2) hy q1
    have h' := h.1
    simp only [fieldChk, Bool.and_eq_true, bne_iff_ne] at h'
    have h3 := heq _ _ h'.1.2 x.1 y.1 c1 d1 w F r1 q1
    have ih := chain_run hrec heq (g :: fs) (off + a.size) b h.2 x.2 y.2 (px ++ c1) (py ++ d1) c2 d2 w F (by rw [List.length_append, hx, Rep.length _ r1]) (by rw [List.length_append, hy, Rep.length _ q1]) r2 q2
    rw [List.append_assoc] at h1 h2 ih
    rw [List.append_assoc] at ih
    simp only [Op.eqFields]
    rw [if_pos h'.1.1.1]
    simp only [Sem.run_bind, h1, h2, h3, Result.andThen_ok]
    have e : @decide (x = y) (Ty.decEq (.pair a b) x y) = (@decide _ (a.decEq x.1 y.1) && @decide _ (b.decEq x.2 y.2)) := by
      cases h5 : @decide _ (a.decEq x.1 y.1) with
      | true =>
        cases h6 : @decide _ (b.decEq x.2 y.2) with
        | true =>
          exact @decide_eq_true _ (Ty.decEq (.pair a b) x y) (Prod.ext (@of_decide_eq_true _ (a.decEq x.1 y.1) h5) (@of_decide_eq_true _ (b.decEq x.2 y.2) h6))
        | false =>
          exact @decide_eq_false _ (Ty.decEq (.pair a b) x y) (fun h => @of_decide_eq_false _ (b.decEq x.2 y.2) h6 (by rw [h]))
      | false => exact @decide_eq_false _ (Ty.decEq (.pair a b) x y) (fun h => @of_decide_eq_false _ (a.decEq x.1 y.1) h5 (by rw [h]))
    rw [e]
    cases @decide _ (a.decEq x.1 y.1) with
    | false => simp [Sem.run_pure]
    | true =>
      simp only [Bool.not_true, Bool.false_eq_true, if_false, Bool.true_and]
      exact ih
  | [], _, _, h, _, _, _, _, _, _, _, _, _, _, _, _ => by simp [chainChk] at h
  | f :: g :: fs, _, .int _, h, _, _, _, _, _, _, _, _, _, _, _, _ => by simp [chainChk] at h
  | f :: g :: fs, _, .bool, h, _, _, _, _, _, _, _, _, _, _, _, _ => by simp [chainChk] at h
  | f :: g :: fs, _, .str, h, _, _, _, _, _, _, _, _, _, _, _, _ => by simp [chainChk] at h
  | f :: g :: fs, _, .slice _, h, _, _, _, _, _, _, _, _, _, _, _, _ => by simp [chainChk] at h
theorem eqChk_under : ∀ (d : Nat) (t : TypeId) (ty : Ty), eqChk P d t ty = true → match ty with
    | .int _ => ∃ k, P.underlying t = some (.int k)
    | .bool => P.underlying t = some .bool
    | .str => P.underlying t = some .string
    | .pair _ _ => ∃ fs, P.underlying t = some (.struct fs)
    | .slice _ => False
  | 0, _, _, h => by cases h
  | d + 1, t, .int k, h => by
    simp only [eqChk] at h
    split at h
    · rename_i k' hk; exact ⟨k', hk⟩
    · cases h
  | d + 1, t, .bool, h => by
    simp only [eqChk] at h
    split at h
    · assumption
    · cases h
  | d + 1, t, .str, h => by
    simp only [eqChk] at h
    split at h
    · assumption
    · cases h
  | d + 1, t, .pair a b, h => by
    simp only [eqChk] at h
    split at h
    · rename_i fs hk; exact ⟨fs, hk⟩
    · cases h
  | d + 1, t, .slice e, h => by cases h
theorem bytes_eq (x y : ByteArray) : (x.toList == y.toList) = @decide _ (Ty.decEq .str x y) := by
  have h : (x.toList == y.toList) = true ↔ x = y := by
    rw [beq_iff_eq]
    constructor
    · intro h
      rw [ByteArray.toList_eq, ByteArray.toList_eq] at h
      obtain ⟨⟨x⟩⟩ := x
      obtain ⟨⟨y⟩⟩ := y
      simp only at h
      rw [h]
    · intro h; rw [h]
  rw [Bool.eq_iff_iff, h]
  exact (@decide_eq_true_iff _ (Ty.decEq .str x y)).symm
theorem eqChk_ok : ∀ (d : Nat) (t : TypeId) (ty : Ty), eqChk P d t ty = true → EqIn P d t ty
  | 0, _, _, h => by cases h
  | d + 1, t, .int k, h => by
    obtain ⟨k', hk⟩ := eqChk_under _ _ _ h
    intro x y cs ds w F rx ry
    simp only [Rep] at rx ry
    subst rx ry
    exact run_equalIn_int w d t k k' x y hk
  | d + 1, t, .bool, h => by
    have hk := eqChk_under _ _ _ h
    intro x y cs ds w F rx ry
    simp only [Rep] at rx ry
    subst rx ry
    have := run_equalIn_bool w d t x y hk
    refine this.trans ?_
    cases x <;> cases y <;> rfl
  | d + 1, t, .str, h => by
    have hk := eqChk_under _ _ _ h
    intro x y cs ds w F rx ry
    simp only [Rep] at rx ry
    subst rx ry
    refine (run_equalIn_string w d t x y hk).trans ?_
    rw [bytes_eq]
  | d + 1, t, .pair a b, h => by
    have h0 := h
    simp only [eqChk] at h
    split at h
    · rename_i fs hk
      rw [Bool.and_eq_true, Bool.not_eq_true'] at h
      intro x y cs ds w F rx ry
      have hf : P.underlying t = some (.struct (P.fieldsOf t)) := by rw [hk]; simp [Program.fieldsOf, hk]
      have hfs : P.fieldsOf t = fs := by rw [hk] at hf; cases hf; rfl
      show (Op.equalIn (d + 1) t (.agg cs.toArray) (.agg ds.toArray)).run P w = _
      rw [run_equalIn_agg w d t _ _ hf h.1, hfs]
      exact chain_run (eqChk_under d) (eqChk_ok d) fs.toList 0 (.pair a b) h.2 x y [] [] cs ds w F rfl rfl rx ry
    · cases h
  | d + 1, t, .slice e, h => by cases h
theorem eqOk_str {t : TypeId} : EqOk P t .str := by
  intro neg x y cs ds w F ox oy hx hy
  simp only [Rep] at hx hy
  subst hx hy
  have e1 : packV .str [.string x] = .string x := rfl
  have e2 : packV .str [.string y] = .string y := rfl
  have e3 := bytes_eq x y
  rw [e1, e2]
  cases neg
  · simp only [Bool.false_eq_true, if_false, eqGuard_at_string, Sem.run_bind, Sem.run_pure, Result.andThen_ok, cond_false, binOp, Op.stringOp, e3]
  · simp only [if_true, eqGuard_at_string, Sem.run_bind, Sem.run_pure, Result.andThen_ok, cond_true, binOp, Op.stringOp, e3]
theorem eqOk_struct {t : TypeId} {ty : Ty} (hp : ty.isPair = true) (h : eqChk P 10000 t ty = true) (hm : P.eqGuardType P.depth t = false) : EqOk P t ty := by
  cases ty with
  | pair a b =>
    intro neg x y cs ds w F ox oy hx hy
    have h1 := eqChk_ok 10000 t _ h x y cs ds w F hx hy
    have e1 : packV (.pair a b) cs = .agg cs.toArray := rfl
    have e2 : packV (.pair a b) ds = .agg ds.toArray := rfl
    rw [e1, e2] at h1 ⊢
    cases neg
    · simp only [Bool.false_eq_true, if_false, Sem.run_bind, run_eqGuard_agg w _ t _ _ _ _ hm, Result.andThen_ok, run_eql_struct, h1, cond_false]
    · simp only [if_true, Sem.run_bind, run_eqGuard_agg w _ t _ _ _ _ hm, Result.andThen_ok, run_neq_struct, h1, cond_true]
  | _ => cases hp
end Go.Refl
end
section
namespace Go.Refl
open Go Go.RowKit
variable {P : Program} {w : World}
inductive Wk : M → M → Prop
  | refl (m : M) : Wk m m
  | own (e : Ty) (E : TypeId) : Wk (.own e E) (.v (.slice e))
  | pr {a a' b b' : M} (h : Wk a a') (k : Wk b b') : Wk (.pr a b) (.pr a' b')
  | vv (s t : Ty) : Wk (.pr (.v s) (.v t)) (.v (.pair s t))
  | trans {a b c : M} (h : Wk a b) (k : Wk b c) : Wk a c
theorem Wk.den {m m' : M} (h : Wk m m') : m.den = m'.den := by
  induction h with
  | refl m => rfl
  | own e E => rfl
  | pr _ _ h k => simp only [M.den, h, k]
  | vv s t => rfl
  | trans _ _ h k => exact h.trans k
theorem prod_heq {A B A' B' : Type} (hA : A = A') (hB : B = B') {x : A × B} {x' : A' × B'} (h : HEq x x') : HEq x.1 x'.1 ∧ HEq x.2 x'.2 := by
  subst hA hB
  cases h
  exact ⟨.rfl, .rfl⟩
theorem Wk.rep {m m' : M} (h : Wk m m') : ∀ {F : Nat → Prop} {x : m.den} {x' : m'.den} {cs : List Value} {bl : List Nat}, HEq x x' → bl.Nodup → MRep w F m x cs bl → ∃ bl', bl'.Sublist bl ∧ MRep w (fun b => F b ∨ (b ∈ bl ∧ b ∉ bl')) m' x' cs bl' ∧ packM m' cs = packM m cs := by
  induction h with
  | refl m =>
    intro F x x' cs bl hx _ hr
    cases hx
    exact ⟨bl, List.Sublist.refl _, hr.mono (fun _ h => .inl h) (fun _ _ => rfl) _ (fun _ _ => rfl), rfl⟩
  | own e E =>
    intro F x x' cs bl hx _ hr
    cases hx
    obtain ⟨v, flat, rfl, h1, h2, rfl⟩ := hr
    obtain ⟨A, c, g1, g2, g3, g4, g5⟩ := owns_cells h1
    subst g1
    refine ⟨[], List.nil_sublist _, ⟨rfl, A, c, flat, rfl, g2, fun h => (g4 h).2, h2.mono fun _ _ h => Rep.mono (fun _ h => .inl h) (fun _ _ => rfl) _ h, fun hn => ?_⟩, rfl⟩
    cases A with
    | none =>
      have h0 := (g4 rfl).1
      rw [h0] at g3
      exact absurd (List.eq_nil_of_length_eq_zero (by simpa using g3)) hn
    | some p => exact ⟨p, rfl, .inr ⟨by simp [lblk], by simp⟩, (g5 p rfl).2.2⟩
  | pr h k ih ik =>
    intro F x x' cs bl hx hn hr
    obtain ⟨q1, q2⟩ := prod_heq h.den k.den hx
    obtain ⟨c1, c2, b1, b2, rfl, rfl, h1, h2⟩ := hr
    rw [List.nodup_append] at hn
    obtain ⟨n1, n2, n3⟩ := hn
    obtain ⟨b1', s1, r1, _⟩ := ih q1 n1 h1
    obtain ⟨b2', s2, r2, _⟩ := ik q2 n2 h2
    refine ⟨b1' ++ b2', s1.append s2, ⟨c1, c2, b1', b2', rfl, rfl, r1.mono ?_ (fun _ _ => rfl) _ (fun _ _ => rfl), r2.mono ?_ (fun _ _ => rfl) _ (fun _ _ => rfl)⟩, rfl⟩
    · rintro b (hb | ⟨hb, hb'⟩)
      · exact .inl hb
      · refine .inr ⟨by simp [hb], fun hm => ?_⟩
        rcases List.mem_append.1 hm with hm | hm
        · exact hb' hm
        · exact n3 b hb b (s2.subset hm) rfl
    · rintro b (hb | ⟨hb, hb'⟩)
      · exact .inl hb
      · refine .inr ⟨by simp [hb], fun hm => ?_⟩
        rcases List.mem_append.1 hm with hm | hm
        · exact n3 b (s1.subset hm) b hb rfl
        · exact hb' hm
  | vv s t =>
    intro F x x' cs bl hx _ hr
    cases hx
    obtain ⟨c1, c2, b1, b2, rfl, rfl, ⟨rfl, h1⟩, ⟨rfl, h2⟩⟩ := hr
    refine ⟨[], List.Sublist.refl _, ⟨rfl, ?_⟩, rfl⟩
    exact Rep.mono (F := F) (fun _ h => .inl h) (fun _ _ => rfl) (.pair s t) ⟨c1, c2, rfl, h1, h2⟩
  | trans h k ih ik =>
    intro F x x' cs bl hx hn hr
    obtain ⟨y, hy⟩ : ∃ y, HEq x y := ⟨cast h.den x, (cast_heq _ _).symm⟩
    obtain ⟨b1, s1, r1, p1⟩ := ih hy hn hr
    obtain ⟨b2, s2, r2, p2⟩ := ik (hy.symm.trans hx) (s1.nodup hn) r1
    refine ⟨b2, s2.trans s1, r2.mono ?_ (fun _ _ => rfl) _ (fun _ _ => rfl), p2.trans p1⟩
    rintro b ((hb | ⟨hb, hb'⟩) | ⟨hb, hb'⟩)
    · exact .inl hb
    · exact .inr ⟨hb, fun h => hb' (s2.subset h)⟩
    · exact .inr ⟨s1.subset hb, hb'⟩
inductive Wks : List M → List M → Prop
  | nil : Wks [] []
  | cons {m m' : M} {ms ms' : List M} (h : Wk m m') (k : Wks ms ms') : Wks (m :: ms) (m' :: ms')
theorem Wks.den {ms ms' : List M} (h : Wks ms ms') : dens ms = dens ms' := by
  induction h with
  | nil => rfl
  | cons h k ih =>
    cases k with
    | nil => exact h.den
    | cons h' k' =>
      show (_ × _) = (_ × _)
      rw [h.den, ih]
theorem Wks.dens {ms ms' : List M} (h : Wks ms ms') (os : List M) : Refl.dens (ms ++ os) = Refl.dens (ms' ++ os) := by
  induction h with
  | nil => rfl
  | cons h k ih =>
    cases k with
    | nil =>
      cases os with
      | nil => exact h.den
      | cons o os => show (_ × _) = (_ × _); rw [h.den]
    | cons h' k' =>
      show (_ × _) = (_ × _)
      rw [h.den]
      exact congrArg (_ × ·) ih
theorem MsRep.mono' {F F' : Nat → Prop} (hF : ∀ b, F b → F' b) : ∀ {ms : List M} {x : Refl.dens ms} {vs : List Value} {bl : List Nat}, MsRep w F ms x vs bl → MsRep w F' ms x vs bl
  | [], _, _, _, h => h
  | [m], _, _, _, ⟨cs, h1, h2⟩ => ⟨cs, h1, h2.mono hF (fun _ _ => rfl) _ (fun _ _ => rfl)⟩
  | m :: n :: ms, _, _, _, ⟨cs, b1, vs', b2, h1, h2, h3, h4⟩ => ⟨cs, b1, vs', b2, h1, h2, h3.mono hF (fun _ _ => rfl) _ (fun _ _ => rfl), MsRep.mono' hF h4⟩
theorem Wks.rep {ms ms' : List M} (h : Wks ms ms') : ∀ {F : Nat → Prop} {x : Refl.dens ms} {x' : Refl.dens ms'} {vs : List Value} {bl : List Nat}, HEq x x' → bl.Nodup → MsRep w F ms x vs bl → ∃ bl', bl'.Sublist bl ∧ MsRep w (fun b => F b ∨ (b ∈ bl ∧ b ∉ bl')) ms' x' vs bl' := by
  induction h with
  | nil =>
    intro F x x' vs bl _ _ hr
    obtain ⟨rfl, rfl⟩ := hr
    exact ⟨[], List.Sublist.refl _, rfl, rfl⟩
  | cons h k ih =>
    intro F x x' vs bl hx hn hr
    cases k with
    | nil =>
      obtain ⟨cs, rfl, h1⟩ := hr
      obtain ⟨bl', s1, r1, p1⟩ := h.rep hx hn h1
      exact ⟨bl', s1, cs, by rw [p1], r1⟩
    | cons h' k' =>
      obtain ⟨cs, b1, vs', b2, rfl, rfl, h1, h2⟩ := hr
      rw [List.nodup_append] at hn
      obtain ⟨n1, n2, n3⟩ := hn
      obtain ⟨q1, q2⟩ := prod_heq h.den (Wks.cons h' k').den hx
      obtain ⟨b1', s1, r1, p1⟩ := h.rep q1 n1 h1
      obtain ⟨b2', s2, r2⟩ := ih q2 n2 h2
      refine ⟨b1' ++ b2', s1.append s2, cs, b1', vs', b2', by rw [p1], rfl, r1.mono ?_ (fun _ _ => rfl) _ (fun _ _ => rfl), MsRep.mono' ?_ r2⟩
      · rintro b (hb | ⟨hb, hb'⟩)
        · exact .inl hb
        · refine .inr ⟨by simp [hb], fun hm => ?_⟩
          rcases List.mem_append.1 hm with hm | hm
          · exact hb' hm
          · exact n3 b hb b (s2.subset hm) rfl
      · rintro b (hb | ⟨hb, hb'⟩)
        · exact .inl hb
        · refine .inr ⟨by simp [hb], fun hm => ?_⟩
          rcases List.mem_append.1 hm with hm | hm
          · exact n3 b (s1.subset hm) b hb rfl
          · exact hb' hm
theorem pair_heq {A B A' B' : Type} (hA : A = A') (hB : B = B') {x : A} {x' : A'} {y : B} {y' : B'} (h : HEq x x') (k : HEq y y') : HEq (x, y) (x', y') := by
  subst hA hB
  cases h
  cases k
  rfl
theorem Wks.split {ms ms' : List M} (h : Wks ms ms') : ∀ {os : List M} {y : Refl.dens (ms ++ os)} {y' : Refl.dens (ms' ++ os)}, HEq y y' → HEq (splitD ms os y).1 (splitD ms' os y').1 ∧ (splitD ms os y).2 = (splitD ms' os y').2 := by
  induction h with
  | nil => intro os y y' hy; cases hy; exact ⟨.rfl, rfl⟩
  | cons h k ih =>
    intro os y y' hy
    cases k with
    | nil =>
      cases os with
      | nil => exact ⟨hy, rfl⟩
      | cons o os =>
        have := prod_heq (A := _) h.den rfl hy
        exact ⟨this.1, eq_of_heq this.2⟩
    | cons h' k' =>
      have hd := (Wks.cons h' k').dens os
      have q := prod_heq h.den hd hy
      obtain ⟨i1, i2⟩ := ih (os := os) q.2
      refine ⟨?_, i2⟩
      exact pair_heq h.den (Wks.cons h' k').den q.1 i1
theorem run_heq {X A B : Type} (h : A = B) {f : X → Option A} {g : X → Option B} (hfg : HEq f g) {x : X} {y' : B} (hy : g x = some y') : ∃ y, f x = some y ∧ HEq y y' := by
  subst h
  cases hfg
  exact ⟨y', hy, .rfl⟩
theorem OutsRep.mono' {w : World} {F F' : Nat → Prop} (hF : ∀ b, F b → F' b) : ∀ {os : List (M × Option TypeId)} {x : dens (os.map (·.1))} {vs : List Value} {bl : List Nat}, OutsRep w F os x vs bl → OutsRep w F' os x vs bl
  | [], _, _, _, h => h
  | [o], _, _, _, ⟨v, h1, h2⟩ => ⟨v, h1, one hF h2⟩
  | o :: o' :: os, _, _, _, ⟨v, b1, vs', b2, h1, h2, h3, h4⟩ => ⟨v, b1, vs', b2, h1, h2, one hF h3, OutsRep.mono' hF h4⟩
where
  one {F F' : Nat → Prop} (hF : ∀ b, F b → F' b) {o : M × Option TypeId} {x : o.1.den} {v : Value} {bl : List Nat} (h : OutRep w F o x v bl) : OutRep w F' o x v bl := by
    unfold OutRep at h ⊢
    split at h
    · exact h.mono hF (fun _ _ => rfl) _ (fun _ _ => rfl)
    · obtain ⟨g, cur, bl', h1, h2, h3, h4⟩ := h
      exact ⟨g, cur, bl', h1, h2, h3.mono hF (fun _ _ => rfl) _ (fun _ _ => rfl), h4⟩
theorem FC.weak {f : Nat} {ps : List Pm} {res res' : List M} {run : pdens ps → Option (dens (res ++ outs ps))} {run' : pdens ps → Option (dens (res' ++ outs ps))} (hw : Wks res res') (hr : HEq run run') (h : FC P f ⟨ps, res, run⟩) : FC P f ⟨ps, res', run'⟩ := by
  intro x y' hy' w F vs mv ln hp hn hb hF
  obtain ⟨y, hy, hyy⟩ := run_heq (hw.dens (outs ps)) hr hy'
  refine (h x y hy w F vs mv ln hp hn hb hF).mono fun e w' h => ?_
  obtain ⟨rs, F', b1, b2, h1, h2, h3, h4, h5, h6, h7, h8⟩ := h
  obtain ⟨s1, s2⟩ := hw.split (os := outs ps) hyy
  have h4' := List.nodup_append.1 h4
  obtain ⟨b1', t1, t2⟩ := hw.rep s1 h4'.1 h2
  refine ⟨rs, fun b => F' b ∨ (b ∈ b1 ∧ b ∉ b1'), b1', b2, h1, t2, ?_, ?_, ?_, fun b hb => .inl (h6 b hb), ?_, h8⟩
  · have := OutsRep.mono' (F' := fun b => F' b ∨ (b ∈ b1 ∧ b ∉ b1')) (fun _ h => .inl h) h3
    have e : (splitD res (outs ps) y).2 = (splitD res' (outs ps) y').2 := s2
    show OutsRep w' _ (outKinds ps) (splitD res' (outs ps) y').2 _ b2
    rw [← e]
    exact this
  · exact List.nodup_append.2 ⟨t1.nodup h4'.1, h4'.2.1, fun a ha b hb => h4'.2.2 a (t1.subset ha) b hb⟩
  · intro b hb
    have hbm : b ∈ b1 ++ b2 := (t1.append (List.Sublist.refl b2)).subset hb
    refine ⟨?_, (h5 b hbm).2⟩
    rintro (h | ⟨h, h'⟩)
    · exact (h5 b hbm).1 h
    · rcases List.mem_append.1 hb with hb | hb
      · exact h' hb
      · exact h4'.2.2 b h b hb rfl
  · rintro b (h | ⟨h, _⟩)
    · exact h7 b h
    · exact ⟨(h5 b (by simp [h])).2.1, .inr (h5 b (by simp [h])).2.2⟩
end Go.Refl
end
section
namespace Go.Refl
open Go Go.RowKit
variable {P : Program}
def WfT : (t : Ty) → t.den → Prop
  | .int k, n => (Lit.int k n).wf = true
  | .bool, _ => True
  | .str, s => s.size ≤ maxLen
  | .pair a b, x => WfT a x.1 ∧ WfT b x.2
  | .slice e, xs => xs.length ≤ maxLen ∧ ∀ y ∈ xs, WfT e y
def IsRow (k : IntKind) (w : World) (a : Option Addr) (len cap : Nat) (zs : List Int) : Prop :=
  (a = none ∧ len = 0 ∧ cap = 0 ∧ zs = []) ∨
  ∃ x, a = some x ∧ len ≤ cap ∧ cap ≤ maxLen ∧ zs.length = cap ∧ (∀ i, i < zs.length → w.cell? (x.add i) = some (.int k (zs.getD i 0))) ∧ ∀ n ∈ zs, (Lit.int k n).wf = true
theorem cell_lt {w : World} {p : Addr} {v : Value} (h : w.cell? p = some v) : p.block < w.heap.size := by
  rcases Nat.lt_or_ge p.block w.heap.size with h1 | h1
  · exact h1
  · unfold World.cell? at h
    rw [Array.getElem?_eq_none h1] at h
    simp at h
theorem RepL.map {α : Type} {R : α → List Value → Prop} {f : α → Value} (h : ∀ x, R x [f x]) : ∀ xs : List α, RepL R xs (xs.map f)
  | [] => rfl
  | x :: xs => ⟨[f x], xs.map f, rfl, h x, RepL.map h xs⟩
theorem row_rep {k : IntKind} {w : World} {a : Option Addr} {len cap : Nat} {zs : List Int} (h : IsRow k w a len cap zs) : Rep w (fun b => b < w.heap.size) (.slice (.int k)) (zs.take len) [.slice a len cap] := by
  rcases h with ⟨rfl, rfl, rfl, rfl⟩ | ⟨x, rfl, h1, h2, h3, h4, h5⟩
  · exact ⟨none, 0, [], rfl, Nat.le_refl _, fun _ => rfl, rfl, fun h => absurd rfl h⟩
  · have hl : (zs.take len).length = len := by rw [List.length_take, h3]; omega
    refine ⟨some x, cap, (zs.take len).map (.int k), by rw [hl], by rw [hl]; exact h1, (fun h => by cases h), RepL.map (R := Rep w _ (.int k)) (f := Value.int k) (fun _ => rfl) _, fun hn => ?_⟩
    have hcell : ∀ j u, ((zs.take len).map (Value.int k))[j]? = some u → w.cell? (x.add j) = some u := by
      intro j u hj
      rw [List.getElem?_map, Option.map_eq_some_iff] at hj
      obtain ⟨n, hn, rfl⟩ := hj
      rw [List.getElem?_take] at hn
      split at hn
      · obtain ⟨q1, q2⟩ := List.getElem?_eq_some_iff.1 hn
        rw [h4 j q1, List.getD_eq_getElem?_getD, hn]
        rfl
      · cases hn
    refine ⟨x, rfl, ?_, hcell⟩
    cases hz : (zs.take len).map (Value.int k) with
    | nil => exact absurd hz hn
    | cons u us =>
      have := cell_lt (hcell 0 u (by rw [hz]; rfl))
      rwa [add_block] at this
theorem Evol.below {w w' : World} (h : Evol w (fun b => b ∈ ([] ++ [] : List Nat)) w') : Below w.heap.size w w' :=
  ⟨h.os, h.tape, h.output, h.size, fun k hk => h.old k hk (by simp)⟩
theorem law_calls {f : Nat} {run : Nat → List Int → Option Bool} (h : ∀ n, FC P f ⟨[.arg (.v (.slice (.int .u8)))], [.v .bool], run n⟩) (ht : ∀ x : List Int, (∀ b ∈ x, 0 ≤ b ∧ b < 256) → ∃ n, run n x = some true)
    {W : World} {a : Option Addr} {len cap : Nat} {zs : List Int} (hz : IsRow .u8 W a len cap zs) : Calls P f #[.slice a len cap] W fun e w' => e = .returned (.bool true) ∧ Below W.heap.size W w' := by
  have hb : ∀ b ∈ zs.take len, 0 ≤ b ∧ b < 256 := by
    intro b hb
    have hm := List.mem_of_mem_take hb
    rcases hz with ⟨_, _, _, rfl⟩ | ⟨x, _, _, _, _, _, h5⟩
    · cases hm
    · have := h5 b hm
      simp only [Lit.wf, Bool.and_eq_true, decide_eq_true_eq] at this
      have e1 : IntKind.u8.min = 0 := rfl
      have e2 : IntKind.u8.max = 255 := rfl
      omega
  obtain ⟨n, hn⟩ := ht _ hb
  refine (h n (zs.take len) true hn W (fun b => b < W.heap.size) [.slice a len cap] [] [] ⟨_, rfl, rfl, [.slice a len cap], rfl, rfl, row_rep hz⟩ List.nodup_nil (by simp) (fun b h => h)).mono fun e w' h => ?_
  obtain ⟨rs, F', b1, b2, h1, ⟨cs, rfl, _, h2⟩, _, _, _, _, _, h8⟩ := h
  refine ⟨?_, h8.below⟩
  have h2' : cs = [.bool true] := h2
  subst h2'
  exact h1
end Go.Refl
end
