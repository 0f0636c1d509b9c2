/- Layer 5, further: joined names, beginnings, paths within others, paths moved. -/
import Derived.Test.YtigpnhgheameoaaDoorPathRef
import Derived.Test.YtigpnhgheameoaaDoorG7
import Derived.Test.YtigpnhgheameoaaDoorG6
import Derived.Test.YtigpnhgheameoaaDoorG9
import Derived.Test.YtigpnhgheameoaaDoorG8
set_option linter.unusedVariables false
namespace Go.Proofs.YtigpnhgheameoaaDoor.Plain
open Go.RowKit Go.Proofs.YtigpnhgheameoaaDoor.G Go.Proofs.YtigpnhgheameoaaDoorW.PrintWords Go.Proofs.YtigpnhgheameoaaDoorW.PrintLast Go.Proofs.YtigpnhgheameoaaDoorW.PrintMore

theorem awake05 : Ev (fun k => rafterlaw05_awake.f k) true := Ev.of (fun k => rafterlaw05_awake.mono k) (k := 40) (by kernel_rfl)

/-! ### texts cut and joined -/
theorem joinL_flat (c : UInt8) (x : List UInt8) : ∀ l : List (List UInt8), joinL c (x :: l) = x ++ (l.map (c :: ·)).flatten
  | [] => by simp [joinL]
  | y :: l => by rw [joinL_cons c x (by simp), joinL_flat c y l]; simp
theorem joinL_app (c : UInt8) : ∀ {a b : List (List UInt8)}, a ≠ [] → b ≠ [] → joinL c (a ++ b) = joinL c a ++ c :: joinL c b
  | [], b, h, _ => absurd rfl h
  | [x], b, _, hb => by rw [List.singleton_append, joinL_cons c x hb]; simp [joinL]
  | x :: y :: a, b, _, hb => by
    rw [List.cons_append, joinL_cons c x (by simp), joinL_app c (a := y :: a) (by simp) hb, joinL_cons c x (by simp)]
    simp
theorem splitL_app (c : UInt8) (a b : List UInt8) : splitL c (a ++ c :: b) = splitL c a ++ splitL c b := by
  have h : joinL c (splitL c a ++ splitL c b) = a ++ c :: b := by
    rw [joinL_app c (splitL_ne c a) (splitL_ne c b), joinL_splitL, joinL_splitL]
  rw [← h]
  refine splitL_joinL c _ (by simp [splitL_ne]) ?_
  intro x hx
  rcases List.mem_append.1 hx with hx | hx
  · exact splitL_free c a x hx
  · exact splitL_free c b x hx
theorem names_ne {p : List UInt8} : names p ≠ [] ↔ pathOk p = true := by
  unfold names
  by_cases h : pathOk p = true
  · rw [if_pos h]; exact ⟨fun _ => h, fun _ => splitL_ne 47 p⟩
  · rw [if_neg h]; exact ⟨fun e => absurd rfl e, fun e => absurd e h⟩
theorem names_ok {p : List UInt8} (h : pathOk p = true) : names p = splitL 47 p := by unfold names; rw [if_pos h]
theorem names_bad {p : List UInt8} (h : ¬ pathOk p = true) : names p = [] := by unfold names; rw [if_neg h]
theorem pathOk_empty : pathOk [] = false := by decide
theorem pathOk_le {p : List UInt8} (h : pathOk p = true) : p.length ≤ 200 := by
  simp only [pathOk, Bool.and_eq_true, decide_eq_true_eq] at h
  exact h.1.1
/-- One path begins another, name by name: the same, or there is a rest behind a slash. -/
theorem begins_text (a b : List UInt8) : splitL 47 b <+: splitL 47 a ↔ a = b ∨ ∃ r, a = b ++ 47 :: r := by
  constructor
  · rintro ⟨t, ht⟩
    by_cases h : t = []
    · refine .inl ?_
      rw [h, List.append_nil] at ht
      rw [← joinL_splitL 47 a, ← ht, joinL_splitL]
    · refine .inr ⟨joinL 47 t, ?_⟩
      rw [← joinL_splitL 47 a, ← ht, joinL_app 47 (splitL_ne 47 b) h, joinL_splitL]
  · rintro (h | ⟨r, h⟩)
    · rw [h]; exact List.prefix_rfl
    · rw [h, splitL_app]; exact List.prefix_append _ _

/-! ### the reference -/
theorem same_loop (a b : List ByteArray) (hl : a.length = b.length) (hm : a.length ≤ 1000000) : ∀ (t u : List ByteArray) (i : Nat), a.drop i = t → b.drop i = u →
    Ev (fun k => rafterref01_Same.l0 k a b (i : Int)) (decide (t.map ByteArray.toList = u.map ByteArray.toList))
  | [], u, i, ht, hu => by
    have hge := List.drop_eq_nil_iff.1 ht
    have e : u = [] := by rw [← hu]; exact List.drop_eq_nil_iff.2 (by omega)
    subst e
    refine Ev.step (f := fun k => some true) (fun k => ?_) (Ev.now _)
    simp only [rafterref01_Same.l0]
    rw [if_neg (by omega)]
  | x :: t, [], i, ht, hu => by
    have hlt := lt_of_drop ht
    have hge := List.drop_eq_nil_iff.1 hu
    omega
  | x :: t, y :: u, i, ht, hu => by
    have hlt := lt_of_drop ht
    have hw : wrap64 ((i : Int) + 1) = ((i + 1 : Nat) : Int) := by rw [wrap64_in (by omega) (by omega)]; omega
    by_cases e : x.toList = y.toList
    · have ih := same_loop a b hl hm t u (i + 1) (succ_of_drop ht) (succ_of_drop hu)
      have e2 : decide ((x :: t).map ByteArray.toList = (y :: u).map ByteArray.toList) = decide (t.map ByteArray.toList = u.map ByteArray.toList) := by simp [e]
      rw [e2]
      refine Ev.step (fun k => ?_) ih
      simp only [rafterref01_Same.l0]
      rw [if_pos (by omega), if_pos (by omega), if_pos (by omega), rdOf_at ht, rdOf_at hu, if_pos e, hw]
    · have e2 : decide ((x :: t).map ByteArray.toList = (y :: u).map ByteArray.toList) = false := decide_eq_false (fun h => e (by simp at h; exact h.1))
      rw [e2]
      refine Ev.step (f := fun k => some false) (fun k => ?_) (Ev.now _)
      simp only [rafterref01_Same.l0]
      rw [if_pos (by omega), if_pos (by omega), if_pos (by omega), rdOf_at ht, rdOf_at hu, if_neg e]
theorem same_ev (a b : List ByteArray) (hm : a.length ≤ 1000000) : Ev (fun k => rafterref01_Same.f k a b) (decide (a.map ByteArray.toList = b.map ByteArray.toList)) := by
  unfold rafterref01_Same.f
  by_cases h : a.length = b.length
  · exact Ev.pos (by omega) (same_loop a b h hm _ _ 0 rfl rfl)
  · refine Ev.neg (by omega) ?_
    rw [decide_eq_false (fun e => h (by have := congrArg List.length e; simpa using this))]
    exact Ev.now _
theorem join_loop (l : List ByteArray) (hm : l.length ≤ 1000000) : ∀ (t : List ByteArray) (i : Nat) (out : List UInt8), l.drop i = t → 0 < i → out.length + ((t.map ByteArray.toList).map (47 :: ·)).flatten.length ≤ 1000000 →
    Ev (fun k => rafterref05_Join.l0 k l (B out) (i : Int)) (B (out ++ ((t.map ByteArray.toList).map (47 :: ·)).flatten))
  | [], i, out, ht, hi, hs => by
    have hge := List.drop_eq_nil_iff.1 ht
    refine Ev.step (f := fun k => some _) (fun k => ?_) (Ev.now _)
    simp only [rafterref05_Join.l0]
    rw [if_neg (by omega)]
    simp
  | x :: t, i, out, ht, hi, hs => by
    have hlt := lt_of_drop ht
    have hw : wrap64 ((i : Int) + 1) = ((i + 1 : Nat) : Int) := by rw [wrap64_in (by omega) (by omega)]; omega
    have hc : B out ++ (⟨#[47]⟩ : ByteArray) ++ x = B (out ++ 47 :: x.toList) := ext_toList (by
      rw [toList_append, toList_append, toList_B, toList_B, show (⟨#[47]⟩ : ByteArray).toList = [47] from toList_B [47]]; simp)
    have hl1 : (B out).size = out.length := size_B _
    have hl2 : (B out ++ (⟨#[47]⟩ : ByteArray)).size = out.length + 1 := by rw [ByteArray.size_append, hl1]; rfl
    have hl3 := toList_length x
    simp only [List.map_cons, List.flatten_cons, List.length_append, List.length_cons] at hs
    have ih := join_loop l hm t (i + 1) (out ++ 47 :: x.toList) (succ_of_drop ht) (by omega) (by simp only [List.length_append, List.length_cons]; omega)
    have e : out ++ 47 :: x.toList ++ ((t.map ByteArray.toList).map (47 :: ·)).flatten = out ++ (((x :: t).map ByteArray.toList).map (47 :: ·)).flatten := by simp
    rw [e] at ih
    refine Ev.step (fun k => ?_) ih
    simp only [rafterref05_Join.l0]
    rw [if_pos (by omega), if_pos (by omega), if_pos (by omega), if_pos (by omega), rdOf_at ht, if_pos (by omega), hc, hw]
theorem join_ev (l : List ByteArray) (hm : l.length ≤ 1000000) (hs : (joinL 47 (l.map ByteArray.toList)).length ≤ 1000000) : Ev (fun k => rafterref05_Join.f k l) (B (joinL 47 (l.map ByteArray.toList))) := by
  unfold rafterref05_Join.f
  cases l with
  | nil =>
    refine Ev.step (f := fun k => some _) (fun k => ?_) (Ev.now _)
    simp only [rafterref05_Join.l0]
    rw [if_neg (by simp)]
    rfl
  | cons x t =>
    have hs' := hs
    rw [List.map_cons, joinL_flat, List.length_append] at hs'
    have h3 := toList_length x
    have ih := join_loop (x :: t) hm t 1 x.toList rfl (by omega) hs'
    rw [← joinL_flat 47 x.toList] at ih
    have hw : wrap64 ((0 : Int) + 1) = ((1 : Nat) : Int) := by rw [wrap64_in (by omega) (by omega)]; omega
    have hc : (⟨#[]⟩ : ByteArray) ++ x = B x.toList := ext_toList (by rw [toList_append, toList_B, show (⟨#[]⟩ : ByteArray).toList = [] from toList_B []]; rfl)
    have hrd : rdOf ByteArray.empty (x :: t) 0 = x := rfl
    refine Ev.step (fun k => ?_) ih
    simp only [rafterref05_Join.l0]
    rw [if_pos (by simp only [List.length_cons]; omega), if_neg (by omega), if_pos (by omega), hrd, if_pos (by show 0 + x.size ≤ _; omega), hc, hw]
theorem refRight_ev (s : ByteArray) (hs : s.size ≤ 100000) : Ev (fun k => rafterref05_Right.f k s) (pathOk s.toList) := by
  unfold rafterref05_Right.f
  refine Ev.bind (refNames_ev s hs) (Ev.congr (fun k => ?_) (Ev.now _))
  rw [List.length_map]
  congr 1
  cases h : pathOk s.toList with
  | true =>
    have := List.length_pos_iff.2 (names_ne.2 h)
    exact decide_eq_true (by omega)
  | false =>
    rw [names_bad (by rw [h]; decide)]
    rfl

/-! ### the program -/
def pathWithin (p q : List UInt8) : Bool := pathOk p && (decide (q = []) || (pathOk q && decide (q ++ [47] <+: p)))
theorem prefix_ev (a b : ByteArray) : strings_HasPrefix.f a b = some (decide (b.toList <+: a.toList)) := by
  have ha := toList_length a
  have hb := toList_length b
  unfold strings_HasPrefix.f stringslite_HasPrefix.f
  by_cases h : b.size ≤ a.size
  · rw [if_pos (by omega), if_pos (by omega), if_pos (by omega), Int.toNat_natCast, extract_take, toList_B]
    show some _ = some _
    congr 1
    rw [Bool.eq_iff_iff]
    simp only [beq_iff_eq, decide_eq_true_eq]
    rw [List.prefix_iff_eq_take, hb]
    exact ⟨fun h => h.symm, fun h => h.symm⟩
  · rw [if_neg (by omega)]
    show some _ = some _
    rw [decide_eq_false]
    intro hp
    have := hp.length_le
    omega
theorem within_ev (a b : ByteArray) (ha : a.size ≤ 100000) (hb : b.size ≤ 100000) : Ev (fun k => path_Within.f k a b) (pathWithin a.toList b.toList) := by
  unfold path_Within.f
  refine Ev.bind (pathRight_ev a ha) ?_
  unfold pathWithin
  by_cases h1 : pathOk a.toList = true
  · refine Ev.pos h1 ?_
    rw [h1, Bool.true_and]
    by_cases h2 : b.toList = []
    · refine Ev.pos h2 ?_
      rw [decide_eq_true h2]
      exact Ev.now _
    · refine Ev.neg h2 (Ev.bind (pathRight_ev b hb) ?_)
      rw [decide_eq_false h2, Bool.false_or]
      by_cases h3 : pathOk b.toList = true
      · refine Ev.pos h3 (Ev.pos (by omega) (Ev.congr (fun k => ?_) (Ev.now _)))
        rw [prefix_ev, h3, toList_append, show (⟨#[47]⟩ : ByteArray).toList = [47] from toList_B [47]]
        rfl
      · refine Ev.neg h3 ?_
        rw [Bool.eq_false_iff.2 h3]
        exact Ev.now _
  · refine Ev.neg h1 ?_
    rw [Bool.eq_false_iff.2 h1]
    exact Ev.now _
def pathMove (p q r : List UInt8) : List UInt8 :=
  if pathOk p = true ∧ pathOk q = true ∧ pathOk r = true ∧ (p = q ∨ pathWithin p q = true) ∧ pathOk (r ++ p.drop q.length) = true then r ++ p.drop q.length else p
theorem move1_ev (a b c : ByteArray) (ha : a.size ≤ 100000) (hb : b.size ≤ 100000) (hc : c.size ≤ 1000) (h : a.size ≤ 1000) (hl : b.size ≤ a.size) : Ev (fun k => path_Move.j1 k a b c false) (if pathOk (c.toList ++ a.toList.drop b.toList.length) = true then B (c.toList ++ a.toList.drop b.toList.length) else a) := by
  have e : c ++ a.extract ((b.size : Int)).toNat a.size = B (c.toList ++ a.toList.drop b.toList.length) := by
    rw [Int.toNat_natCast, extract_drop, toList_length b]
    exact ext_toList (by rw [toList_append, toList_B, toList_B])
  have hs : (c ++ a.extract ((b.size : Int)).toNat a.size).size ≤ 2000 := by
    rw [e, size_B, List.length_append, List.length_drop, toList_length, toList_length]; omega
  have hr := pathRight_ev (c ++ a.extract ((b.size : Int)).toNat a.size) (by omega)
  rw [show (c ++ a.extract ((b.size : Int)).toNat a.size).toList = c.toList ++ a.toList.drop b.toList.length from by rw [e, toList_B]] at hr
  refine Ev.step (f := fun k => (path_Right.f k (c ++ a.extract ((b.size : Int)).toNat a.size)).bind fun t153 => (if t153 = true then (some (c ++ a.extract ((b.size : Int)).toNat a.size)) else (some a))) (fun k => ?_) (Ev.bind hr ?_)
  · simp only [path_Move.j1]
    rw [if_neg (by decide), if_pos (by omega), if_pos (by omega), if_pos (by rw [ByteArray.size_append] at hs; omega)]
  · by_cases h1 : pathOk (c.toList ++ a.toList.drop b.toList.length) = true
    · refine Ev.pos h1 ?_
      rw [if_pos h1, ← e]
      exact Ev.now _
    · refine Ev.neg h1 ?_
      rw [if_neg h1]
      exact Ev.now _
theorem within_len {p q : List UInt8} (h : pathWithin p q = true) : q.length ≤ p.length := by
  simp only [pathWithin, Bool.and_eq_true, Bool.or_eq_true, decide_eq_true_eq] at h
  rcases h.2 with h | h
  · rw [h]; simp
  · have := h.2.length_le
    rw [List.length_append] at this
    omega
theorem move_ev (a b c : ByteArray) (ha : a.size ≤ 1000) (hb : b.size ≤ 1000) (hc : c.size ≤ 1000) : Ev (fun k => path_Move.f k a b c) (B (pathMove a.toList b.toList c.toList)) := by
  have hBa : B a.toList = a := ext_toList (toList_B _)
  have hj0 : Ev (fun k => path_Move.j0 k a b c true) a := by
    refine Ev.step (f := fun k => some a) (fun k => ?_) (Ev.now _)
    simp only [path_Move.j0]
    rw [if_pos trivial]
  unfold path_Move.f pathMove
  refine Ev.bind (pathRight_ev a (by omega)) ?_
  by_cases h1 : pathOk a.toList = true
  · refine Ev.pos h1 (Ev.bind (pathRight_ev b (by omega)) ?_)
    by_cases h2 : pathOk b.toList = true
    · refine Ev.pos h2 (Ev.bind (pathRight_ev c (by omega)) ?_)
      by_cases h3 : pathOk c.toList = true
      · rw [h3]
        have hfin : b.size ≤ a.size → a.toList = b.toList ∨ pathWithin a.toList b.toList = true → Ev (fun k => path_Move.j1 k a b c false) (B (if pathOk a.toList = true ∧ pathOk b.toList = true ∧ pathOk c.toList = true ∧ (a.toList = b.toList ∨ pathWithin a.toList b.toList = true) ∧ pathOk (c.toList ++ a.toList.drop b.toList.length) = true then c.toList ++ a.toList.drop b.toList.length else a.toList)) := by
          intro hl hor
          have := move1_ev a b c (by omega) (by omega) hc ha hl
          by_cases h5 : pathOk (c.toList ++ a.toList.drop b.toList.length) = true
          · rw [if_pos ⟨h1, h2, h3, hor, h5⟩]
            rw [if_pos h5] at this
            exact this
          · rw [if_neg (fun h => h5 h.2.2.2.2), hBa]
            rw [if_neg h5] at this
            exact this
        rw [h3] at hfin
        by_cases h4 : a.toList = b.toList
        · refine Ev.step (f := fun k => path_Move.j1 k a b c false) (fun k => ?_) (hfin (by rw [← toList_length, ← toList_length, h4]; exact Nat.le_refl _) (.inl h4))
          simp only [path_Move.j0]
          rw [if_neg (by decide), if_pos h4]
        · refine Ev.step (f := fun k => (path_Within.f k a b).bind fun t152 => path_Move.j1 k a b c (!t152)) (fun k => ?_) (Ev.bind (within_ev a b (by omega) (by omega)) ?_)
          · simp only [path_Move.j0]
            rw [if_neg (by decide), if_neg h4]
          · cases h5 : pathWithin a.toList b.toList with
            | true =>
              have hl := within_len h5
              rw [toList_length, toList_length] at hl
              have := hfin hl (.inr h5)
              rw [h5] at this
              exact this
            | false =>
              rw [if_neg (fun h => by rcases h.2.2.2.1 with h | h; exact h4 h; cases h), hBa]
              refine Ev.step (f := fun k => some a) (fun k => ?_) (Ev.now _)
              simp only [path_Move.j1]
              rw [if_pos (by decide)]
      · rw [if_neg (fun h => h3 h.2.2.1), hBa, Bool.eq_false_iff.2 h3]
        exact hj0
    · rw [if_neg (fun h => h2 h.2.1), hBa]
      exact Ev.neg h2 hj0
  · rw [if_neg (fun h => h1 h.1), hBa]
    exact Ev.neg h1 hj0

end Go.Proofs.YtigpnhgheameoaaDoor.Plain
