import Derived.Test.YtmnmbjnhhhdegaaGreatDoorB5
/- FnRecoverBook: mathematics of the law. No condition. -/
set_option linter.unusedVariables false
set_option linter.unusedSimpArgs false
section
set_option linter.unusedVariables false
namespace Go.Proofs.YtmnmbjnhhhdegaaGreatDoorG
open Go Go.Refl Go.Refl.Math Go.RowKit
def lnsB (l : List UInt8) : List (List UInt8) := (splitB 10 l).dropLast
theorem splitB_ne (c : UInt8) (l : List UInt8) : splitB c l ≠ [] := by
 intro h
 have := splitB_length c l
 rw [h] at this
 simp at this
theorem lnsB_none {l : List UInt8} (h : (10 : UInt8) ∉ l) : lnsB l = [] := by unfold lnsB; rw [splitB_none h]; rfl
theorem lnsB_at {a b : List UInt8} (h : (10 : UInt8) ∉ a) : lnsB (a ++ 10 :: b) = a :: lnsB b := by
 unfold lnsB
 rw [splitB_at h]
 cases hs : splitB 10 b with
 | nil => exact absurd hs (splitB_ne _ _)
 | cons x y => rfl
noncomputable def recL : Nat → List ByteArray → List EvT
 | 0, _ => []
 | _ + 1, [] => []
 | k + 1, w :: ws => if (parseT w).2 = true then (parseT w).1 :: recL k ws else []
noncomputable def linesT (s : ByteArray) : List ByteArray := (lnsB s.data.toList).map mkB
noncomputable def recT (s : ByteArray) : List EvT := recL 30 (linesT s)
theorem nl_index_E (x : ByteArray) : E (fun k => zf45 (k 0) (x, { data := #[(10 : UInt8)] })) (Go.Lib.indexByte x.data.toList 10) := E.congr (fun _ => rfl) (E.now _)
theorem index_none {c : UInt8} : ∀ {l : List UInt8}, c ∉ l → Go.Lib.indexByte l c = -1
 | [], _ => rfl
 | x :: l, h => by
  have h1 : x ≠ c := fun e => h (by rw [e]; exact List.mem_cons_self ..)
  rw [Go.Lib.indexByte, if_neg (by simpa using h1), index_none (fun h' => h (List.mem_cons_of_mem _ h'))]
  rfl
theorem cut_yes {x : ByteArray} {a b : List UInt8} (h : x.data.toList = a ++ 10 :: b) (ha : (10 : UInt8) ∉ a) (hx : x.size < 1000000000) : E (fun k => zf131 (k 0) (x, { data := #[(10 : UInt8)] })) (mkB a, mkB b, true) := by
 have q1 : ByteArray.size { data := #[(10 : UInt8)] } = 1 := rfl
 have hc : x.data.toList.count 10 = b.count 10 + 1 := by
  rw [h, List.count_append, List.count_eq_zero.2 ha, List.count_cons_self]; omega
 obtain ⟨a', b', h1, h2, h3, _⟩ := index_split hc
 have hs1 := splitB_at (c := 10) (m := b) ha
 have hs2 := splitB_at (c := 10) (m := b') h2
 rw [← h] at hs1
 rw [← h1, hs1] at hs2
 obtain rfl := (List.cons.inj hs2).1
 obtain rfl : b = b' := by
  rw [h] at h1
  exact (List.cons.inj (List.append_cancel_left h1)).2
 have hz : x.size = a.length + (b.length + 1) := by rw [ba_size, h]; simp
 have e1 : x.extract (a.length + 1) x.size = mkB b := by
  have := ext_mk (x := x) (a := a ++ [10]) (b := b) (c := []) (by rw [h]; simp)
  have hlen : (a ++ [(10 : UInt8)]).length = a.length + 1 := by simp
  rw [hlen, show a.length + 1 + b.length = x.size by omega] at this
  exact this
 have e2 : x.extract 0 a.length = mkB a := by
  have := ext_mk (x := x) (a := []) (b := a) (c := 10 :: b) (by rw [h]; rfl)
  simpa using this
 refine E.congr (fun k => zf131.eq (k 0) x _) (E.bind (a := (mkB a, mkB b, true)) (E.congr (fun k => zf44.eq (k 0) x _) (E.bind (nl_index_E x) ?_)) (E.now _))
 rw [h3]
 simp only [q1]
 rw [show wrap64 ((a.length : Int) + ((1 : Nat) : Int)) = ((a.length + 1 : Nat) : Int) from wrap_nat (by omega)]
 simp only [Int.toNat_natCast]
 rw [e1, e2]
 exact E.pos (by omega) (E.pos (by omega) (E.pos (by omega) (E.pos (by omega) (E.pos (by omega) (E.now _)))))
theorem cut_no {x : ByteArray} (h : (10 : UInt8) ∉ x.data.toList) : E (fun k => zf131 (k 0) (x, { data := #[(10 : UInt8)] })) (x, { data := #[] }, false) := by
 refine E.congr (fun k => zf131.eq (k 0) x _) (E.bind (a := (x, { data := #[] }, false)) (E.congr (fun k => zf44.eq (k 0) x _) (E.bind (nl_index_E x) ?_)) (E.now _))
 rw [index_none h]
 exact E.neg (by decide) (E.now _)
theorem recL_len : ∀ (k : Nat) (ws : List ByteArray), (recL k ws).length ≤ k
 | 0, _ => Nat.le_refl _
 | k + 1, [] => Nat.zero_le _
 | k + 1, w :: ws => by
  rw [recL]
  split
  ·have := recL_len k ws; simp; omega
  ·exact Nat.zero_le _
theorem implRec_l2 : ∀ (n : Nat) (x : ByteArray) (out : List EvT), x.data.toList.count 10 = n → x.size < 400000000 → out.length ≤ 30 →
  E (fun k => zf19.l2 (k 0) (k 1) x out) (out ++ recL (30 - out.length) (linesT x))
 | n, x, out, hc, hx, ho => by
  by_cases h30 : out.length < 30
  ·by_cases hn : (10 : UInt8) ∈ x.data.toList
   ·match n, hc with
    | 0, hc => exact absurd hn (List.count_eq_zero.1 hc)
    | n + 1, hc =>
     obtain ⟨a, b, h1, h2, _, h4⟩ := index_split hc
     have hz : x.size = a.length + (b.length + 1) := by rw [ba_size, h1]; simp
     have hl : linesT x = mkB a :: linesT (mkB b) := by unfold linesT; rw [h1, lnsB_at h2, mkB_list]; rfl
     obtain ⟨m, hm⟩ : ∃ m, 30 - out.length = m + 1 := ⟨29 - out.length, by omega⟩
     have hp := implParse_E (mkB a) (by rw [mkB_size]; omega)
     have hcut := cut_yes h1 h2 (by omega)
     rw [hl, hm, recL]
     cases hq : parseT (mkB a) with
     | mk e ok =>
      rw [hq] at hp
      cases ok with
      | false =>
       rw [if_neg (by simp)]
       refine E.step 1 (fun v w h1 h2 => by rewrite [h1, h2 0 (by decide)]; exact zf19.l2_succ ..) ?_
       exact E.pos (by omega) (E.bind hcut (E.neg (by simp) (E.bind hp (E.pos rfl (E.now' (by simp))))))
      | true =>
       have ih := implRec_l2 n (mkB b) (out ++ [e]) (by rw [mkB_list]; exact h4) (by rw [mkB_size]; omega) (by simp; omega)
       rw [show 30 - (out ++ [e]).length = m by simp; omega] at ih
       rw [if_pos rfl]
       refine E.step 1 (fun v w h1 h2 => by rewrite [h1, h2 0 (by decide)]; exact zf19.l2_succ ..) ?_
       refine E.pos (by omega) (E.bind hcut (E.neg (by simp) (E.bind hp (E.neg (by simp) (E.pos ?_ (E.is ih (by simp)))))))
       simp only [List.length_set, List.length_replicate, maxN]; omega
   ·have hl : linesT x = [] := by unfold linesT; rw [lnsB_none hn]; rfl
    have hr : recL (30 - out.length) (linesT x) = [] := by
     rw [hl]
     cases 30 - out.length <;> rfl
    rw [hr, List.append_nil]
    refine E.step 1 (fun v w h1 h2 => by rewrite [h1, h2 0 (by decide)]; exact zf19.l2_succ ..) ?_
    exact E.pos (by omega) (E.bind (cut_no hn) (E.pos rfl (E.now _)))
  ·have h0 : 30 - out.length = 0 := by omega
   rw [h0, recL, List.append_nil]
   refine E.step 1 (fun v w h1 h2 => by rewrite [h1, h2 0 (by decide)]; exact zf19.l2_succ ..) ?_
   exact E.neg (by omega) (E.now _)
theorem implRec_E (x : ByteArray) (hx : x.size < 400000000) : E (fun k => zf19 (k 0) x) (recT x) := by
 have h := implRec_l2 _ x [] rfl hx (by simp)
 exact E.congr (fun k => zf19.eq (k 0) x) (E.ren (fun _ => 0) h)
theorem specRec_l4 (last : ByteArray) : ∀ (post pre : List ByteArray) (out : List EvT), (∀ w ∈ post, w.size < 400000000) → (pre ++ post).length ≤ 400000000 → out.length ≤ 30 →
  E (fun k => zf108.l4 (k 0) (k 1) (pre.length : Int) out (pre ++ (post ++ [last]))) (out ++ recL (30 - out.length) post)
 | [], pre, out, hw, hl, ho => by
  have hr : recL (30 - out.length) [] = [] := by cases 30 - out.length <;> rfl
  rw [hr, List.append_nil]
  have hlen : (pre ++ ([] ++ [last])).length = pre.length + 1 := by simp
  refine E.step 1 (fun v w h1 h2 => by rewrite [h1, h2 0 (by decide)]; exact zf108.l4_succ ..) ?_
  rw [wrap_nat (by simp at hl; omega)]
  exact E.neg (by omega) (E.now _)
 | w :: post, pre, out, hw, hl, ho => by
  have hlen : (pre ++ (w :: post ++ [last])).length = pre.length + (post.length + 2) := by simp
  have hl2 : pre.length + (post.length + 1) ≤ 400000000 := by simpa using hl
  have hget : (pre ++ (w :: post ++ [last])).getD pre.length ByteArray.empty = w := getD_mid _ _ _
  have hp := specParse_E w (hw w (List.mem_cons_self ..))
  cases hq : parseT w with
  | mk e ok =>
   rw [hq] at hp
   cases ok with
   | false =>
    have hr : recL (30 - out.length) (w :: post) = [] := by
     cases 30 - out.length with
     | zero => rfl
     | succ m => rw [recL, hq, if_neg (by simp)]
    rw [hr, List.append_nil]
    refine E.step 1 (fun v w h1 h2 => by rewrite [h1, h2 0 (by decide)]; exact zf108.l4_succ ..) ?_
    rw [wrap_nat (by omega), Int.toNat_natCast, hget]
    exact E.pos (by omega) (E.pos (by omega) (E.pos (by omega) (E.bind hp (E.pos rfl (E.now _)))))
   | true =>
    by_cases h30 : out.length = 30
    ·have hr : recL (30 - out.length) (w :: post) = [] := by rw [h30]; rfl
     rw [hr, List.append_nil]
     refine E.step 1 (fun v w h1 h2 => by rewrite [h1, h2 0 (by decide)]; exact zf108.l4_succ ..) ?_
     rw [wrap_nat (by omega), Int.toNat_natCast, hget]
     exact E.pos (by omega) (E.pos (by omega) (E.pos (by omega) (E.bind hp (E.neg (fun h => by cases (show false = true from h)) (E.pos (by omega) (E.now _))))))
    ·obtain ⟨m, hm⟩ : ∃ m, 30 - out.length = m + 1 := ⟨29 - out.length, by omega⟩
     have ih := specRec_l4 last post (pre ++ [w]) (out ++ [e]) (fun y hy => hw y (List.mem_cons_of_mem _ hy)) (by simpa using hl) (by simp; omega)
     rw [show 30 - (out ++ [e]).length = m by simp; omega, show (pre ++ [w]).length = pre.length + 1 by simp, List.append_assoc] at ih
     rw [hm, recL, hq, if_pos rfl]
     refine E.step 1 (fun v w h1 h2 => by rewrite [h1, h2 0 (by decide)]; exact zf108.l4_succ ..) ?_
     rw [wrap_nat (by omega), Int.toNat_natCast, hget]
     refine E.pos (by omega) (E.pos (by omega) (E.pos (by omega) (E.bind hp (E.neg (fun h => by cases (show false = true from h)) (E.neg (by omega) (E.pos ?_ (E.is ih (by simp))))))))
     simp only [List.length_set, List.length_replicate, maxN]; omega
theorem lines_small {x w : ByteArray} (h : w ∈ linesT x) : w.size ≤ x.size := by
 unfold linesT lnsB at h
 obtain ⟨l, hl, rfl⟩ := List.mem_map.1 h
 have := splitB_small 10 _ l (List.dropLast_subset _ hl)
 rw [← ba_size] at this
 rw [mkB_size]; exact this
theorem specRec_E (x : ByteArray) (hx : x.size < 300000000) : E (fun k => zf108 (k 0) x) (recT x) := by
 have hs : E (fun k => zf118 (k 0) (x, 10)) ((splitB 10 x.data.toList).map mkB) := specSplit_E x 10 (by omega)
 have hc : x.data.toList.count 10 ≤ x.size := by rw [ba_size]; exact List.count_le_length
 have hsl := splitB_length 10 x.data.toList
 have hne := splitB_ne 10 x.data.toList
 have hd : (splitB 10 x.data.toList).map mkB = linesT x ++ [mkB ((splitB 10 x.data.toList).getLast hne)] := by
  unfold linesT lnsB
  rw [← List.map_singleton (f := mkB), ← List.map_append, List.dropLast_concat_getLast]
 have hll : (linesT x).length + 1 = x.data.toList.count 10 + 1 := by
  have := congrArg List.length hd
  rw [List.length_map, hsl] at this
  simpa using this.symm
 have hl := specRec_l4 (mkB ((splitB 10 x.data.toList).getLast hne)) (linesT x) [] [] (fun w hw => by have := lines_small hw; omega) (by simp only [List.nil_append]; omega) (by simp)
 rw [hd] at hs
 exact E.congr (fun k => zf108.eq (k 0) x) (E.bind hs (E.ren (fun _ => 0) hl))
theorem specRecover_E (x : ByteArray) (hx : x.size < 300000000) : E (fun k => zf72 (k 0) x) (recT x) := E.congr (fun k => zf72.eq (k 0) x) (E.bind (specRec_E x hx) (E.now _))
theorem lnsB_pre : ∀ (n : Nat) (l m : List UInt8), l.count 10 = n → lnsB l <+: lnsB (l ++ m)
 | 0, l, m, h => by rw [lnsB_none (List.count_eq_zero.1 h)]; exact List.nil_prefix
 | n + 1, l, m, h => by
  obtain ⟨a, b, h1, h2, _, h4⟩ := index_split h
  rw [h1, List.append_assoc, List.cons_append, lnsB_at h2, lnsB_at h2]
  exact (List.cons_prefix_cons).2 ⟨rfl, lnsB_pre n b m h4⟩
theorem recL_pre : ∀ (k : Nat) {ws vs : List ByteArray}, ws <+: vs → recL k ws <+: recL k vs
 | 0, _, _, _ => List.prefix_rfl
 | k + 1, [], vs, _ => List.nil_prefix
 | k + 1, w :: ws, [], h => by simp at h
 | k + 1, w :: ws, v :: vs, h => by
  obtain ⟨rfl, h'⟩ := List.cons_prefix_cons.1 h
  rw [recL, recL]
  split
  ·exact (List.cons_prefix_cons).2 ⟨rfl, recL_pre k h'⟩
  ·exact List.prefix_rfl
theorem recT_pre (s : ByteArray) (n : Nat) : recT (s.extract 0 n) <+: recT s := by
 unfold recT linesT
 refine recL_pre 30 ?_
 have e : (s.extract 0 n).data.toList = s.data.toList.take n := by rw [ext_list]; simp
 rw [e]
 have := lnsB_pre _ (s.data.toList.take n) (s.data.toList.drop n) rfl
 rw [List.take_append_drop] at this
 exact this.map _
theorem parse_back {w : ByteArray} (h : (parseT w).2 = true) : evtT (parseT w).1 = w ∧ w ≠ ByteArray.empty := by
 rcases parse_is w with ⟨e, h1, h2, h3⟩ | ⟨h3, _⟩
 ·rw [h3]; exact ⟨by rw [evtT_canon]; exact h1, h2⟩
 ·rw [h3] at h; cases h
theorem recL_text : ∀ (k : Nat) (n : Nat) (l : List UInt8), l.count 10 = n → ∃ m, l = (linT (recL k ((lnsB l).map mkB))).data.toList ++ m ∧ (linT (recL k ((lnsB l).map mkB))).data.toList.count 10 = (recL k ((lnsB l).map mkB)).length ∧ (∀ e ∈ recL k ((lnsB l).map mkB), evtT e ≠ ByteArray.empty ∧ ∃ w, (parseT w).2 = true ∧ (parseT w).1 = e ∧ w.size + 1 ≤ l.length)
 | 0, n, l, _ => ⟨l, rfl, rfl, fun e he => by cases he⟩
 | k + 1, 0, l, h => by
  rw [lnsB_none (List.count_eq_zero.1 h)]
  exact ⟨l, rfl, rfl, fun e he => by cases he⟩
 | k + 1, n + 1, l, h => by
  obtain ⟨a, b, h1, h2, _, h4⟩ := index_split h
  obtain ⟨m, i1, i2, i3⟩ := recL_text k n b h4
  rw [h1, lnsB_at h2, List.map_cons, recL]
  by_cases hq : (parseT (mkB a)).2 = true
  ·obtain ⟨p1, p2⟩ := parse_back hq
   rw [if_pos hq, linT, p1]
   have e1 : (mkB a ++ nlT ++ linT (recL k ((lnsB b).map mkB))).data.toList = a ++ 10 :: (linT (recL k ((lnsB b).map mkB))).data.toList := by
    simp [ByteArray.data_append, mkB, nlT]
   rw [e1]
   refine ⟨m, ?_, ?_, fun e he => ?_⟩
   ·rw [List.append_assoc, List.cons_append, ← i1]
   ·rw [List.count_append, List.count_cons_self, i2, List.count_eq_zero.2 h2, List.length_cons]; omega
   ·rcases List.mem_cons.1 he with rfl | he
    ·exact ⟨by rw [p1]; exact p2, mkB a, hq, rfl, by rw [mkB_size]; simp⟩
    ·obtain ⟨j1, w, j2, j3, j4⟩ := i3 e he
     exact ⟨j1, w, j2, j3, by simp; omega⟩
  ·rw [if_neg hq]
   exact ⟨a ++ 10 :: b, rfl, rfl, fun e he => by cases he⟩
theorem recT_text (s : ByteArray) : ∃ m, s.data.toList = (linT (recT s)).data.toList ++ m ∧ (linT (recT s)).data.toList.count 10 = (recT s).length ∧ (∀ e ∈ recT s, evtT e ≠ ByteArray.empty ∧ ∃ w, (parseT w).2 = true ∧ (parseT w).1 = e ∧ w.size + 1 ≤ s.size) := by
 obtain ⟨m, h1, h2, h3⟩ := recL_text 30 _ s.data.toList rfl
 exact ⟨m, h1, h2, fun e he => by obtain ⟨j1, w, j2, j3, j4⟩ := h3 e he; exact ⟨j1, w, j2, j3, by rw [ba_size]; exact j4⟩⟩
theorem recT_len (s : ByteArray) : (recT s).length ≤ 30 := recL_len _ _
theorem recT_ok {s : ByteArray} (h : s.size ≤ 1048576) : ∀ e ∈ recT s, e.2.2.2.2.1.length ≤ 1048576 ∧ (-1000 ≤ e.2.2.2.2.2.1 ∧ e.2.2.2.2.2.1 ≤ 1000) ∧ (-1000 ≤ e.2.2.2.2.2.2 ∧ e.2.2.2.2.2.2 ≤ 1000) := fun e he => by
 obtain ⟨_, _, _, h3⟩ := recT_text s
 obtain ⟨_, w, _, j3, j4⟩ := h3 e he
 obtain ⟨g1, g2, g3⟩ := parse_small (s := w) (by omega)
 rw [j3] at g1 g2 g3
 omega
theorem okEv_of {l : List EvT} (h : EvsOk l) : ∀ e ∈ l, okEv e := fun e he => by
 have := h e he
 exact ⟨this.1, ⟨by omega, by omega⟩, ⟨by omega, by omega⟩⟩
theorem recT_evs {s : ByteArray} (h : s.size ≤ 1048576) : EvsOk (recT s) := recT_ok h
theorem recT_bok (s : ByteArray) : bokT (recT s) = true := by
 obtain ⟨_, _, _, h3⟩ := recT_text s
 unfold bokT
 rw [List.all_eq_true]
 intro e he
 have := (h3 e he).1
 simp only [Bool.not_eq_true', decide_eq_false_iff_not]
 exact this
theorem booK_rec (s : ByteArray) : booK (recT s) = linT (recT s) := by
 unfold booK
 rw [if_pos (recT_len s), if_pos (recT_bok s)]
end Go.Proofs.YtmnmbjnhhhdegaaGreatDoorG
end
section
set_option linter.unusedVariables false
namespace Go.Proofs.YtmnmbjnhhhdegaaGreatDoorG
open Go Go.Refl Go.Refl.Math Go.RowKit
theorem EvsOk.set {l : List Ev7} (h : EvsOk l) (i : Nat) (x : Ev7) (hx : x.2.2.2.2.1.length ≤ 1048576 ∧ (-1000 ≤ x.2.2.2.2.2.1 ∧ x.2.2.2.2.2.1 ≤ 1000) ∧ (-1000 ≤ x.2.2.2.2.2.2 ∧ x.2.2.2.2.2.2 ≤ 1000)) : EvsOk (l.set i x) := fun e he => by
 rcases List.mem_or_eq_of_mem_set he with h1 | h1
 ·exact h e h1
 ·rw [h1]; exact hx
theorem EvsOk.at {l : List Ev7} (h : EvsOk l) (i : Nat) : (l.getD i (0, 0, 0, 0, [], 0, 0)).2.2.2.2.1.length ≤ 1048576 ∧ (-1000 ≤ (l.getD i (0, 0, 0, 0, [], 0, 0)).2.2.2.2.2.1 ∧ (l.getD i (0, 0, 0, 0, [], 0, 0)).2.2.2.2.2.1 ≤ 1000) ∧ (-1000 ≤ (l.getD i (0, 0, 0, 0, [], 0, 0)).2.2.2.2.2.2 ∧ (l.getD i (0, 0, 0, 0, [], 0, 0)).2.2.2.2.2.2 ≤ 1000) := by
 by_cases hi : i < l.length
 ·exact h _ (getD_mem _ hi)
 ·simp [List.getD_eq_getElem?_getD, List.getElem?_eq_none (show l.length ≤ i by omega)]
theorem EvsD.set {l : List Ev7} (h : EvsD l) (i : Nat) (x : Ev7) (hx : x.2.2.2.2.1.length ≤ 12 ∧ (-1000 ≤ x.2.2.2.2.2.1 ∧ x.2.2.2.2.2.1 ≤ 1000) ∧ (-1000 ≤ x.2.2.2.2.2.2 ∧ x.2.2.2.2.2.2 ≤ 1000)) : EvsD (l.set i x) := fun e he => by
 rcases List.mem_or_eq_of_mem_set he with h1 | h1
 ·exact h e h1
 ·rw [h1]; exact hx
theorem EvsD.at {l : List Ev7} (h : EvsD l) (i : Nat) : (l.getD i (0, 0, 0, 0, [], 0, 0)).2.2.2.2.1.length ≤ 12 ∧ (-1000 ≤ (l.getD i (0, 0, 0, 0, [], 0, 0)).2.2.2.2.2.1 ∧ (l.getD i (0, 0, 0, 0, [], 0, 0)).2.2.2.2.2.1 ≤ 1000) ∧ (-1000 ≤ (l.getD i (0, 0, 0, 0, [], 0, 0)).2.2.2.2.2.2 ∧ (l.getD i (0, 0, 0, 0, [], 0, 0)).2.2.2.2.2.2 ≤ 1000) := by
 by_cases hi : i < l.length
 ·exact h _ (getD_mem _ hi)
 ·simp [List.getD_eq_getElem?_getD, List.getElem?_eq_none (show l.length ≤ i by omega)]
theorem anyBook_D {s : List Int} {p b : Int} (hr : RdOk (s, p) b) (hb : b ≤ 500000000) :
  ∃ c l p', E (fun k => zf75 (k 0) (s, p)) (c, l, s, p') ∧ vC c = true ∧ EvsD l ∧ l.length ≤ 18 ∧ RdOk (s, p') (b + 600) := by
 obtain ⟨c, p0, h0, v0, r0⟩ := firstClub_D hr (by omega)
 obtain ⟨l, c1, p1, h1, v1, _, r1, _, hl, g⟩ := someBook_D c v0 r0 (by omega)
 have e0 : ∀ k : Nat → Nat, zf75 (k 0) (s, p) = _ := fun k => zf75.eq (k 0) (s, p)
 by_cases hn : ((l.length : Nat) : Int) > 1
 ·obtain ⟨x, h2, _, _, r2⟩ := pick_D r1 (by omega) 10
  by_cases k0 : x = 0
  ·refine ⟨_, _, _, E.congr e0 (E.bind h0 (E.bind h1 (E.pos hn (E.bind h2 (E.pos k0 (E.pos (show (1 : Int) ≤ (l.length : Int) by omega) (E.now _))))))), v0, fun e he => ?_, ?_, r2.mono (by omega)⟩
   ·exact g e (List.mem_of_mem_drop (List.mem_of_mem_take he))
   ·simp; omega
  by_cases k1 : x = 1
  ·obtain ⟨y, h3, y0, y1, r3⟩ := pick_D r2 (by omega) (l.length : Int)
   obtain ⟨z, h4, _, r4⟩ := one_D r3 (by omega) (List.set (List.set (List.set (List.replicate 3 0) 0 (-1)) 1 100) 2 1) (by simp)
   have y2 := y1 (by omega)
   exact ⟨_, _, _, E.congr e0 (E.bind h0 (E.bind h1 (E.pos hn (E.bind h2 (E.neg k0 (E.pos k1 (E.bind h3 (E.bind h4 (E.pos y0 (E.pos y2 (E.now _))))))))))), v0, g.set _ _ (g.at _), by rw [List.length_set]; exact hl, r4.mono (by omega)⟩
  by_cases k2 : x = 2
  ·obtain ⟨y, h3, y0, y1, r3⟩ := pick_D r2 (by omega) (l.length : Int)
   obtain ⟨z, h4, _, r4⟩ := one_D r3 (by omega) (List.set (List.set (List.set (List.replicate 3 0) 0 (-1)) 1 1000001) 2 3) (by simp)
   have y2 := y1 (by omega)
   exact ⟨_, _, _, E.congr e0 (E.bind h0 (E.bind h1 (E.pos hn (E.bind h2 (E.neg k0 (E.neg k1 (E.pos k2 (E.bind h3 (E.bind h4 (E.pos y0 (E.pos y2 (E.now _)))))))))))), v0, g.set _ _ (g.at _), by rw [List.length_set]; exact hl, r4.mono (by omega)⟩
  ·exact ⟨_, _, _, E.congr e0 (E.bind h0 (E.bind h1 (E.pos hn (E.bind h2 (E.neg k0 (E.neg k1 (E.neg k2 (E.now _)))))))), v0, g, hl, r2.mono (by omega)⟩
 ·exact ⟨_, _, _, E.congr e0 (E.bind h0 (E.bind h1 (E.neg hn (E.now _)))), v0, g, hl, r1.mono (by omega)⟩
end Go.Proofs.YtmnmbjnhhhdegaaGreatDoorG
end
section
set_option linter.unusedVariables false
namespace Go.Proofs.YtmnmbjnhhhdegaaGreatDoorG
open Go Go.Refl Go.Refl.Math Go.RowKit
theorem linT_size {N : Nat} : ∀ (l : List EvT), (∀ e ∈ l, (evtT e).size ≤ N) → (linT l).size ≤ l.length * (N + 1)
 | [], _ => by show 0 ≤ _; omega
 | e :: l, h => by
  have ih := linT_size l (fun x hx => h x (List.mem_cons_of_mem _ hx))
  have he := h e (List.mem_cons_self ..)
  rw [linT, ByteArray.size_append, ByteArray.size_append, nlT_size, List.length_cons, Nat.add_mul]
  omega
theorem booK_size {l : List EvT} (h : EvsD l) (hl : l.length ≤ 18) : (booK l).size ≤ 760000 := by
 have h1 := linT_size (N := 41212) l (fun e he => by
  have := evtT_size e
  have := (h e he).1
  omega)
 unfold booK
 refine size_if (fun _ => size_if (fun _ => ?_) (fun _ => ?_)) (fun _ => ?_)
 ·have : l.length * (41212 + 1) ≤ 18 * (41212 + 1) := Nat.mul_le_mul_right _ hl
  omega
 ·exact Nat.zero_le _
 ·exact Nat.zero_le _
theorem bookText_D {s : List Int} {p b : Int} (hr : RdOk (s, p) b) (hb : b ≤ 400000000) :
  ∃ c t p', E (fun k => zf78 (k 0) (s, p)) (c, t, s, p') ∧ vC c = true ∧ t.size ≤ 800000 ∧ RdOk (s, p') (b + 700) := by
 obtain ⟨c, l, p1, h1, hv, hd, hl, r1⟩ := anyBook_D hr (by omega)
 have h2 := specBook_E l (okEv_of hd.ok)
 have hz := booK_size hd hl
 obtain ⟨v, h3, _, _, r3⟩ := pick_D r1 (by omega) 4
 have e0 : ∀ k : Nat → Nat, zf78 (k 0) (s, p) = _ := fun k => zf78.eq (k 0) (s, p)
 generalize booK l = t at h2 hz
 by_cases k0 : v = 0
 ·obtain ⟨u, p4, h4, hu, r4⟩ := mutate_D r3 (by omega) t (by omega)
  exact ⟨c, u, p4, E.congr e0 (E.bind h1 (E.bind h2 (E.bind h3 (E.pos k0 (E.bind h4 (E.now _)))))), hv, by omega, r4.mono (by omega)⟩
 ·by_cases k1 : v = 1
  ·have ew : wrap64 ((t.size : Int) + 1) = (t.size : Int) + 1 := wrap_id (by omega) (by omega)
   obtain ⟨w, h4, g0, g1, r4⟩ := pick_D r3 (by omega) ((t.size : Int) + 1)
   have g2 := g1 (by omega)
   refine ⟨c, t.extract 0 w.toNat, p1 + 1 + 1, E.congr e0 (E.bind h1 (E.bind h2 (E.bind h3 (E.neg k0 (E.pos k1 (E.bind (E.veil _) ?_)))))), hv, ?_, r4.mono (by omega)⟩
   ·rw [ew]
    exact E.bind h4 (E.pos g0 (E.pos (by omega) (E.now _)))
   ·rw [ByteArray.size_extract]; omega
  ·exact ⟨c, t, p1 + 1, E.congr e0 (E.bind h1 (E.bind h2 (E.bind h3 (E.neg k0 (E.neg k1 (E.now _)))))), hv, by omega, r3.mono (by omega)⟩
theorem equalEvents_l4 : ∀ (post pre : List EvT), (pre ++ post).length ≤ 1000 → (∀ e ∈ post, e.2.2.2.2.1.length ≤ 1048576) →
  E (fun k => zf51.l4 (k 0) (k 1) (pre ++ post) (pre ++ post) (pre.length : Int)) true
 | [], pre, hl, h => by
  refine E.step 1 (fun v w h1 h2 => by rewrite [h1, h2 0 (by decide)]; exact zf51.l4_succ ..) ?_
  exact E.neg (by simp) (E.now _)
 | e :: post, pre, hl, h => by
  have hlen : (pre ++ e :: post).length = pre.length + (post.length + 1) := by simp
  have he := h e (List.mem_cons_self ..)
  have ih := equalEvents_l4 post (pre ++ [e]) (by simpa using hl) (fun x hx => h x (List.mem_cons_of_mem _ hx))
  rw [show (pre ++ [e]).length = pre.length + 1 from by simp, List.append_assoc] at ih
  refine E.step 1 (fun v w h1 h2 => by rewrite [h1, h2 0 (by decide)]; exact zf51.l4_succ ..) ?_
  simp only [Int.toNat_natCast, getD_mid]
  rw [wrap_nat (by omega)]
  exact E.pos (by omega) (E.pos (by omega) (E.pos (by omega) (E.pos (by omega) (E.pos (by omega) (E.bind (equalEvent_E e (by omega)) (E.neg (by decide) ih))))))
theorem equalEvents_E (l : List EvT) (hl : l.length ≤ 1000) (h : ∀ e ∈ l, e.2.2.2.2.1.length ≤ 1048576) : E (fun k => zf51 (k 0) (l, l)) true :=
 E.congr (fun k => zf51.eq (k 0) l l) (E.pos rfl (E.ren (fun _ => 0) (equalEvents_l4 l [] (by simpa using hl) h)))
theorem newlines_l3 {x : ByteArray} (hx : x.size < 1000000000) : ∀ (post pre : List UInt8), x.data.toList = pre ++ post →
  E (fun k => zf54.l3 (k 0) (k 1) x ((pre.count 10 : Nat) : Int) (pre.length : Int)) ((x.data.toList.count 10 : Nat) : Int)
 | [], pre, he => by
  rw [List.append_nil] at he
  have hz : x.size = pre.length := by rw [ba_size, he]
  refine E.step 1 (fun v w h1 h2 => by rewrite [h1, h2 0 (by decide)]; exact zf54.l3_succ ..) ?_
  exact E.neg (by omega) (E.now' (by rw [he]))
 | b :: post, pre, he => by
  have hz : x.size = pre.length + (post.length + 1) := by rw [ba_size, he]; simp
  have hget : x.data.toList.getD pre.length 0 = b := by rw [he, getD_mid]
  have ih := newlines_l3 hx post (pre ++ [b]) (by rw [he]; simp)
  have hcl : pre.count 10 ≤ pre.length := List.count_le_length
  rw [show (pre ++ [b]).length = pre.length + 1 from by simp] at ih
  refine E.step 1 (fun v w h1 h2 => by rewrite [h1, h2 0 (by decide)]; exact zf54.l3_succ ..) ?_
  simp only [Int.toNat_natCast, hget]
  rw [wrap_nat (n := pre.length) (by omega), wrap_nat (n := pre.count 10) (by omega)]
  by_cases hb : b = 10
  ·have hc : (pre ++ [b]).count 10 = pre.count 10 + 1 := by rw [List.count_append, hb]; rfl
   rw [hc] at ih
   exact E.pos (by omega) (E.pos (by omega) (E.pos (by omega) (E.pos (by rw [hb]; rfl) ih)))
  ·have hc : (pre ++ [b]).count 10 = pre.count 10 := by rw [List.count_append, List.count_cons_of_ne hb]; rfl
   rw [hc] at ih
   exact E.pos (by omega) (E.pos (by omega) (E.pos (by omega) (E.neg (fun h => hb ((byte_eq (n := 10) (by decide)).1 h)) ih)))
theorem newlines_E (x : ByteArray) (hx : x.size < 1000000000) : E (fun k => zf54 (k 0) x) ((x.data.toList.count 10 : Nat) : Int) :=
 E.congr (fun k => zf54.eq (k 0) x) (E.ren (fun _ => 0) (newlines_l3 hx x.data.toList [] rfl))
theorem recover_l9 {s t : ByteArray} (hs : s.size ≤ 1000000) (ht : t = linT (recT s)) : ∀ (d i : Nat), s.size + 1 ≤ i + d →
  E (fun k => zf47.l9 (k 0) (k 1) s t (i : Int) (recT s)) true
 | 0, i, hi => by
  have fin : E (fun k => zf47.l9 (k 0) (k 1) s t (i : Int) (recT s)) true := recover_end hs ht (by omega)
  exact fin
 | d + 1, i, hi => by
  by_cases hlt : i ≤ s.size
  ·obtain ⟨st, hst⟩ : ∃ st : Nat, wrap64 (wrap64 ((i : Int) + 1) + wrap64 (Int.tdiv (s.size : Int) 40)) = ((i + 1 + st : Nat) : Int) := by
    refine ⟨s.size / 40, ?_⟩
    rw [Int.tdiv_eq_ediv_of_nonneg (by omega), wrap_nat (by omega), wrap_id (x := (s.size : Int) / 40) (by omega) (by omega), wrap_id (by omega) (by omega)]
    omega
   have ih := recover_l9 hs ht d (i + 1 + st) (by omega)
   have hz : (s.extract 0 i).size ≤ s.size := by rw [ByteArray.size_extract]; omega
   have h1 := implRec_E (s.extract 0 i) (by omega)
   have hpre := recT_pre s i
   have hle := hpre.length_le
   have heq := List.prefix_iff_eq_take.1 hpre
   have hlen := recT_len (s.extract 0 i)
   have hok := recT_ok (s := s.extract 0 i) (by omega)
   generalize recT (s.extract 0 i) = r at h1 hle heq hlen hok
   have h2 := equalEvents_E r (by omega) (fun e he => (hok e he).1)
   refine E.step 1 (fun v w h1 h2 => by rewrite [h1, h2 0 (by decide)]; exact zf47.l9_succ ..) ?_
   rw [Int.toNat_natCast, hst]
   refine E.pos (by omega) (E.pos (by omega) (E.pos (by omega) (E.bind h1 (E.neg (by omega) (E.pos (by omega) (E.pos (by omega) ?_))))))
   rw [Int.toNat_natCast, Nat.sub_zero, List.drop_zero, ← heq]
   exact E.bind h2 (E.neg (by decide) ih)
  ·exact recover_end hs ht (by omega)
where
 recover_end {s t : ByteArray} {i : Nat} (hs : s.size ≤ 1000000) (ht : t = linT (recT s)) (hi : s.size < i) : E (fun k => zf47.l9 (k 0) (k 1) s t (i : Int) (recT s)) true := by
  obtain ⟨m, h1, h2, _⟩ := recT_text s
  rw [← ht] at h1 h2
  have hz : s.size = t.size + m.length := by rw [ba_size, h1, List.length_append, ← ba_size]
  have he : s.extract 0 t.size = t := by
   apply ba_ext
   rw [ext_list, h1]
   simp only [List.drop_zero, Nat.sub_zero]
   rw [List.take_left' (by rw [ba_size])]
  have hn := newlines_E t (by omega)
  rw [h2] at hn
  refine E.step 1 (fun v w h1 h2 => by rewrite [h1, h2 0 (by decide)]; exact zf47.l9_succ ..) ?_
  rw [Int.toNat_natCast]
  exact E.neg (by omega) (E.pos (by omega) (E.pos (by omega) (E.pos (by omega) (E.pos he (E.bind (E.ren (fun _ => 0) hn) (E.now' (decide_eq_true rfl)))))))
theorem FnRecoverBook_pure (x : List Int) (hw : WfT (.slice (.int .u8)) x) : ∃ n, zf47 n x = some true := by
 have hx := u8_lt hw
 refine E.one (E.congr (fun k => zf47.eq (k 0) x) (E.ite (fun h => E.now _) (fun h => ?_)))
 obtain ⟨c, s, p, hd, _, hs, _⟩ := bookText_D (start_rd hx) (by omega)
 have hdr : E (fun k => zf67 (k 0) x) s := E.congr (fun k => zf67.eq (k 0) x) (E.bind (newReader_E x) (E.bind hd (E.now _)))
 have h1 := implRec_E s (by omega)
 have h2 := specRecover_E s (by omega)
 have hok := recT_evs (s := s) (by omega)
 have hl := recT_len s
 have h3 := equalEvents_E (recT s) (by omega) (fun e he => (hok e he).1)
 have h4 := implBook_E (recT s) (okEv_of hok)
 rw [booK_rec] at h4
 have h5 := recover_l9 (s := s) (t := linT (recT s)) (by omega) rfl (s.size + 1) 0 (by omega)
 exact E.bind hdr (E.bind h1 (E.bind h2 (E.bind h3 (E.neg (by decide) (E.bind h4 (E.ren (fun _ => 0) h5))))))
end Go.Proofs.YtmnmbjnhhhdegaaGreatDoorG
end
