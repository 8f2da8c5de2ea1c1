/- What a value of the input reads as, kind by kind: from the reading of the row to Kd's cells. -/
import Derived.Test.YtifohlgdkdcpeaaPFnExactMostLoanx0
import Derived.ProofKit
import Derived.OpenShut
import Derived.ShutString
import Derived.ChangeOld
import Derived.Below
namespace Go.Proofs.Ytifohlgdkdcpeaa.Opens
open Go.ChangeShapes Go.WideShapes Go.RowKit Go.Proofs.YtifohlgdkdcpeaaW.PrintWords Go.Proofs.YtifohlgdkdcpeaaW.PrintLast Go.Proofs.YtifohlgdkdcpeaaW.PrintMore
/-- Whatever is read at type t is a value of kind d of which Q holds. -/
def Opn (P : Program) {α : Type} (t : TypeId) (d : Kd α) (Q : α → Prop) : Prop :=
  ∀ {H : Type} {enc : TypeId × Value → H} {w : World} {spare : Nat → Bool} {held : Bool} {fuel : Nat} {cs : List Value} {x : DataW H × List MemPlace},
    DataW.trod enc P w 0 spare held fuel t cs = some x → ∃ a, d.K w a cs ∧ Q a
/-- The fields of a struct, from offset o on. -/
def OpnF (P : Program) {α : Type} (fs : List Field) (o : Nat) (d : Kd α) (Q : α → Prop) : Prop :=
  ∀ {H : Type} {enc : TypeId × Value → H} {w : World} {spare : Nat → Bool} {held : Bool} {fuel : Nat} {cs : List Value},
    (∀ f ∈ fs, ∃ x, DataW.trod enc P w 0 spare held fuel f.type ((cs.drop f.offset).take (P.cellsOf f.type)) = some x) → cs.length = o + d.sz → ∃ a, d.K w a (cs.drop o) ∧ Q a
variable {P : Program} {α β : Type} {t : TypeId}
theorem op_int {k : IntKind} (ht : P.underlying t = some (.int k)) : Opn P t (Kd.int k) (fun n => (Lit.int k n).wf = true) := by
  intro H enc w spare held fuel cs x h
  obtain ⟨n, rfl, _, hw⟩ := DataW.trod_int ht h
  exact ⟨n, rfl, hw⟩
theorem op_bool (ht : P.underlying t = some .bool) : Opn P t Kd.bool (fun _ => True) := by
  intro H enc w spare held fuel cs x h
  obtain ⟨n, rfl, _⟩ := DataW.trod_bool ht h
  exact ⟨n, rfl, trivial⟩
theorem op_string (ht : P.underlying t = some .string) : Opn P t Kd.string (fun s => s.size ≤ maxLen) := by
  intro H enc w spare held fuel cs x h
  obtain ⟨n, rfl, _, hw⟩ := DataW.trod_string ht h
  exact ⟨n, rfl, hw⟩
theorem op_slice {e : TypeId} {d : Kd α} {Q : α → Prop} (ht : P.underlying t = some (.slice e)) (hc : P.cellsOf e = d.sz) (he : Opn P e d Q) : Opn P t (Kd.slice e d) (fun l => l.length ≤ maxLen ∧ ∀ x ∈ l, Q x) := by
  intro H enc w spare held fuel cs x h
  rcases DataW.trod_slice ht h with ⟨rfl, _⟩ | ⟨a, len, cap, elems, rest, n, _, rfl, _, _, hl, hm, hlen, hel, _, _⟩
  · exact ⟨[], ⟨none, 0, rfl, Nat.le_refl _, rfl, by simp, fun h => by simp at h⟩, by simp, by simp⟩
  · have each : ∀ i : Fin len, ∃ a' : α, Q a' ∧ ∃ c, w.cells? 0 (a.add (i.1 * P.cellsOf e)) (P.cellsOf e) = some c ∧ d.K w a' c := by
      intro i
      have h1 := hel i.1 i.2
      rw [List.getElem?_eq_getElem (by omega), Option.bind_eq_some_iff] at h1
      obtain ⟨c, h2, h3⟩ := h1
      obtain ⟨a', h4, h5⟩ := he h3
      exact ⟨a', h5, c, h2, h4⟩
    obtain ⟨f, hf⟩ := Classical.axiomOfChoice each
    have hL : (List.ofFn f).length = len := by simp
    refine ⟨List.ofFn f, ⟨some a, cap, by rw [hL], by omega, rfl, by rw [hL]; unfold maxLen at hm; omega, fun _ => ⟨a, rfl, ?_⟩⟩, by omega, ?_⟩
    · intro j p hp
      obtain ⟨hj, rfl⟩ := List.getElem?_eq_some_iff.1 hp
      have hj' : j < len := by omega
      obtain ⟨_, c, hcs, hk⟩ := hf ⟨j, hj'⟩
      obtain ⟨_, h2, h3⟩ := World.cells?_some hcs
      refine ⟨c, by omega, by simpa using hk, fun i u hu => ?_⟩
      have hi : i < P.cellsOf e := by have := (List.getElem?_eq_some_iff.1 hu).1; omega
      have h4 := h3 i hi
      rw [Addr.add_add] at h4
      rw [← hc, h4, hu]
    · intro y hy
      obtain ⟨j, hj, rfl⟩ := List.getElem_of_mem hy
      have hj' : j < len := by omega
      simpa using (hf ⟨j, hj'⟩).1
theorem opF_one {f : Field} {o : Nat} {d : Kd α} {Q : α → Prop} (ho : f.offset = o) (hc : P.cellsOf f.type = d.sz) (h : Opn P f.type d Q) : OpnF P [f] o d Q := by
  intro H enc w spare held fuel cs hx hl
  obtain ⟨x, hx⟩ := hx f (List.mem_singleton.2 rfl)
  rw [ho, List.take_of_length_le (by rw [List.length_drop]; omega)] at hx
  exact h hx
theorem opF_cons {f : Field} {fs : List Field} {o o' : Nat} {a : Kd α} {b : Kd β} {Q : α → Prop} {R : β → Prop} (ho : f.offset = o) (hc : P.cellsOf f.type = a.sz) (ho' : o' = o + a.sz) (h : Opn P f.type a Q) (h' : OpnF P fs o' b R) :
    OpnF P (f :: fs) o (Kd.pair a b) (fun x => Q x.1 ∧ R x.2) := by
  intro H enc w spare held fuel cs hx hl
  subst ho'
  have hl' : cs.length = o + (a.sz + b.sz) := hl
  obtain ⟨x, hx0⟩ := hx f (List.mem_cons_self ..)
  rw [ho, hc] at hx0
  obtain ⟨y, h1, h2⟩ := h hx0
  obtain ⟨z, h3, h4⟩ := h' (fun g hg => hx g (List.mem_cons_of_mem _ hg)) (by omega)
  refine ⟨(y, z), ⟨_, _, ?_, h1, h3⟩, h2, h4⟩
  rw [← List.drop_drop, List.take_append_drop]
theorem op_struct {fs : Array Field} {d : Kd α} {Q : α → Prop} (f : β → α) (g : α → β) (hfg : ∀ x, f (g x) = x) (ht : P.underlying t = some (.struct fs)) (hc : P.cellsOf t = d.sz) (h : OpnF P fs.toList 0 d Q) : Opn P t (Kd.iso d f) (fun x => Q (f x)) := by
  intro H enc w spare held fuel cs x hx
  obtain ⟨xs, n, _, _, hl, hn, hi⟩ := DataW.trod_struct ht hx
  obtain ⟨y, h1, h2⟩ := h (cs := cs) (fuel := n) (enc := enc) (w := w) (spare := spare) (held := held) (fun fd hfd => by
    obtain ⟨i, hi', rfl⟩ := List.getElem_of_mem hfd
    have hi2 : i < fs.size := by simpa using hi'
    refine ⟨xs[i]'(by omega), ?_⟩
    rw [hi i _ (by simp [hi2]), List.getElem?_eq_getElem]) (by omega)
  refine ⟨g y, ?_, by show Q (f (g y)); rw [hfg]; exact h2⟩
  show d.K w (f (g y)) cs
  rw [hfg]
  simpa using h1
/-- A parameter: its cells. -/
theorem opens {H : Type} {enc : TypeId × Value → H} {w : World} {spare : Nat → Bool} {held : Bool} {v : Value} {d : DataW H} {ps : List MemPlace} {k : Kd α} {Q : α → Prop} (h : Opn P t k Q) (hv : DataW.Trod enc P w 0 spare held t v d ps) : ∃ a, k.K w a v.cells.toList ∧ Q a := by
  obtain ⟨m, hm⟩ := hv
  exact h hm
theorem agg_of {cs : Array Value} {l : List Value} (h : (Value.agg cs).cells.toList = l) : cs = l.toArray := by
  subst h
  simp [Value.cells]
theorem slice_of {α : Type} {e : TypeId} {d : Kd α} {w : World} {A : Option Addr} {n c : Nat} {l : List α} (h : (Kd.slice e d).K w l (Value.slice A n c).cells.toList) : n = l.length ∧ l.length ≤ c ∧ d.C w A l.length l := by
  obtain ⟨A', c', hcs, hc, hr⟩ := h
  simp [Value.cells] at hcs
  obtain ⟨rfl, rfl, rfl⟩ := hcs
  exact ⟨rfl, hc, hr⟩
end Go.Proofs.Ytifohlgdkdcpeaa.Opens
