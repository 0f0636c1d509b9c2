-- Words of the kit's print (as it laid them for this seat); what this claim does not use is left out.
import Derived.Test.YtloibeefopdhpaaDoorCmdSameW
import Derived.Test.YtloibeefopdhpaaDoorRef35Same
set_option linter.unusedVariables false
namespace Go.Proofs.YtloibeefopdhpaaDoor.G
open Go.RowKit Go.Proofs.YtloibeefopdhpaaDoorW.PrintWords Go.Proofs.YtloibeefopdhpaaDoorW.PrintLast Go.Proofs.YtloibeefopdhpaaDoorW.PrintMore Go.Proofs.YtloibeefopdhpaaDoor.Plain
theorem rdOf_drop {l : List ByteArray} {i : Nat} {s : ByteArray} {t : List ByteArray} (h : l.drop i = s :: t) : rdOf ByteArray.empty l (i : Int) = s := by
  have : l[i]? = some s := by
    have := congrArg (fun l => l[0]?) h
    simpa using this
  rw [rdOf, Int.toNat_natCast, List.getD_eq_getElem?_getD, this]
  rfl
theorem equal_loop (a b : List ByteArray) (hl : a.length = b.length) (hm : a.length ≤ 9223372036854775807) : ∀ (t u : List ByteArray) (i : Nat), a.drop i = t → b.drop i = u →
    Ev (fun k => slices_Equal_string_string.l0 k a b (a.length : Int) (i : Int)) (decide (t.map ByteArray.toList = u.map ByteArray.toList))
  | [], u, i, ht, hu => by
    have hge := List.drop_eq_nil_iff.1 ht
    have e : u = [] := by rw [← hu]; exact List.drop_eq_nil_iff.2 (by omega)
    subst e
    refine Ev.step (f := fun k => some true) (fun k => ?_) (Ev.now _)
    simp only [slices_Equal_string_string.l0]
    rw [if_neg (by omega)]
  | x :: t, u, i, ht, hu => by
    have hlt : i < a.length := by
      rcases Nat.lt_or_ge i a.length with h' | h'
      · exact h'
      · rw [List.drop_eq_nil_of_le h'] at ht; cases ht
    have ht2 : a.drop (i + 1) = t := by rw [← List.drop_drop, ht]; rfl
    cases u with
    | nil =>
      have := List.drop_eq_nil_iff.1 hu
      omega
    | cons y u =>
      have hu2 : b.drop (i + 1) = u := by rw [← List.drop_drop, hu]; rfl
      have hw : wrap64 ((i : Int) + 1) = ((i + 1 : Nat) : Int) := by rw [wrap64_in (by omega) (by omega)]; omega
      by_cases e : x.toList = y.toList
      · have ih := equal_loop a b hl hm t u (i + 1) ht2 hu2
        have e2 : decide ((x :: t).map ByteArray.toList = (y :: u).map ByteArray.toList) = decide (t.map ByteArray.toList = u.map ByteArray.toList) := by simp [e]
        rw [e2]
        refine Ev.step (fun k => ?_) ih
        simp only [slices_Equal_string_string.l0]
        rw [if_pos (by omega), if_pos (by omega), if_pos (by omega), if_pos (by omega), rdOf_drop ht, rdOf_drop hu, if_pos e, hw]
      · have e2 : decide ((x :: t).map ByteArray.toList = (y :: u).map ByteArray.toList) = false := decide_eq_false (fun h => e (by simp at h; exact h.1))
        rw [e2]
        refine Ev.step (f := fun k => some false) (fun k => ?_) (Ev.now _)
        simp only [slices_Equal_string_string.l0]
        rw [if_pos (by omega), if_pos (by omega), if_pos (by omega), if_pos (by omega), rdOf_drop ht, rdOf_drop hu, if_neg e]
theorem equal_ev (a b : List ByteArray) (hm : b.length ≤ 9223372036854775806) : Ev (fun k => slices_Equal_string_string.f k a b) (decide (a.map ByteArray.toList = b.map ByteArray.toList)) := by
  unfold slices_Equal_string_string.f
  by_cases h : a.length = b.length
  · exact Ev.pos (by omega) (equal_loop a b h (by omega) _ _ 0 rfl rfl)
  · refine Ev.neg (by omega) ?_
    rw [decide_eq_false (fun e => h (by have := congrArg List.length e; simpa using this))]
    exact Ev.now _
end Go.Proofs.YtloibeefopdhpaaDoor.G
namespace Go.Proofs.YtloibeefopdhpaaDoor.Plain
open Go.RowKit Go.Proofs.YtloibeefopdhpaaDoor.G Go.Proofs.YtloibeefopdhpaaDoorW.PrintWords Go.Proofs.YtloibeefopdhpaaDoorW.PrintLast Go.Proofs.YtloibeefopdhpaaDoorW.PrintMore
theorem drop_cons_lt {α : Type} {l : List α} {i : Nat} {x : α} {t : List α} (h : l.drop i = x :: t) : i < l.length := by
  rcases Nat.lt_or_ge i l.length with h' | h'
  · exact h'
  · rw [List.drop_eq_nil_of_le h'] at h; cases h
theorem drop_cons_succ {α : Type} {l : List α} {i : Nat} {x : α} {t : List α} (h : l.drop i = x :: t) : l.drop (i + 1) = t := by
  rw [← List.drop_drop, h]
  rfl
theorem rdOf_cons {l : List ByteArray} {i : Nat} {x : ByteArray} {t : List ByteArray} (h : l.drop i = x :: t) : rdOf ByteArray.empty l (i : Int) = x := G.rdOf_drop h
theorem ref_same_loop (a b : List ByteArray) (hl : a.length ≤ 9223372036854775806) (hab : a.length = b.length) : ∀ (t u : List ByteArray) (i : Nat), a.drop i = t → b.drop i = u → Ev (fun k => rafterref01_Same.l0 k a b (i : Int)) (decide (t = u))
  | [], u, i, ht, hu => by
    have hge := List.drop_eq_nil_iff.1 ht
    have : u = [] := by rw [← hu]; exact List.drop_eq_nil_iff.2 (by omega)
    subst this
    refine Ev.step (f := fun k => some true) (fun k => ?_) (Ev.now _)
    simp only [rafterref01_Same.l0]
    rw [if_neg (by omega)]
  | x :: t, [], i, ht, hu => by
    have hlt := drop_cons_lt ht
    have hge := List.drop_eq_nil_iff.1 hu
    omega
  | x :: t, y :: u, i, ht, hu => by
    have hlt := drop_cons_lt ht
    have hlt' := drop_cons_lt hu
    have hw : wrap64 ((i : Int) + 1) = ((i + 1 : Nat) : Int) := by rw [wrap64_in (by omega) (by omega)]; omega
    by_cases h : x = y
    · subst h
      have ih := ref_same_loop a b hl hab t u (i + 1) (drop_cons_succ ht) (drop_cons_succ hu)
      have e : decide (x :: t = x :: u) = decide (t = u) := by simp
      rw [e]
      refine Ev.step (fun k => ?_) ih
      simp only [rafterref01_Same.l0]
      rw [if_pos (by omega), if_pos (by omega), if_pos (by omega), rdOf_cons ht, rdOf_cons hu, if_pos rfl, hw]
    · have e : decide (x :: t = y :: u) = false := by simp [h]
      rw [e]
      refine Ev.step (f := fun k => some false) (fun k => ?_) (Ev.now _)
      simp only [rafterref01_Same.l0]
      rw [if_pos (by omega), if_pos (by omega), if_pos (by omega), rdOf_cons ht, rdOf_cons hu, if_neg (fun e => h (ext_toList e))]
theorem ref_same (a b : List ByteArray) (hl : b.length ≤ 9223372036854775806) : Ev (fun k => rafterref01_Same.f k a b) (decide (a = b)) := by
  unfold rafterref01_Same.f
  by_cases h : a.length = b.length
  · exact Ev.pos (by omega) (ref_same_loop a b (by omega) h a b 0 (by simp) (by simp))
  · have e : decide (a = b) = false := decide_eq_false (fun e => h (by rw [e]))
    rw [e]
    exact Ev.neg (by omega) (Ev.now _)
theorem map_toList_inj : ∀ {a b : List ByteArray}, a.map ByteArray.toList = b.map ByteArray.toList → a = b
  | [], [], _ => rfl
  | [], _ :: _, h => by cases h
  | _ :: _, [], h => by cases h
  | x :: a, y :: b, h => by
    rw [List.map_cons, List.map_cons] at h
    injection h with h1 h2
    rw [ext_toList h1, map_toList_inj h2]
theorem same_ev (a0 b0 : Int) (a1 b1 : ByteArray) (a2 b2 : ByteArray) (a3 b3 : Int) (a4 b4 : ByteArray) (a5 b5 : List ByteArray) (a6 b6 : Int) (a7 b7 : ByteArray) (a8 b8 : ByteArray) (a9 b9 : List ByteArray) (h5 : b5.length ≤ 100000000) (h9 : b9.length ≤ 100000000) : Ev (fun k => cmd_Same.f k a0 a1 a2 a3 a4 a5 a6 a7 a8 a9 b0 b1 b2 b3 b4 b5 b6 b7 b8 b9) (decide (a0 = b0 ∧ a1 = b1 ∧ a2 = b2 ∧ a3 = b3 ∧ a4 = b4 ∧ a5 = b5 ∧ a6 = b6 ∧ a7 = b7 ∧ a8 = b8 ∧ a9 = b9)) := by
  unfold cmd_Same.f
  by_cases e0 : a0 = b0
  case neg =>
    rw [decide_eq_false (fun h => e0 h.1)]
    exact Ev.neg (e0) (Ev.now _)
  refine Ev.pos (e0) ?_
  by_cases e1 : a1 = b1
  case neg =>
    rw [decide_eq_false (fun h => e1 h.2.1)]
    exact Ev.neg (fun h => e1 (ext_toList h)) (Ev.now _)
  refine Ev.pos (by rw [e1]) ?_
  by_cases e2 : a2 = b2
  case neg =>
    rw [decide_eq_false (fun h => e2 h.2.2.1)]
    exact Ev.neg (fun h => e2 (ext_toList h)) (Ev.now _)
  refine Ev.pos (by rw [e2]) ?_
  by_cases e3 : a3 = b3
  case neg =>
    rw [decide_eq_false (fun h => e3 h.2.2.2.1)]
    exact Ev.neg (e3) (Ev.now _)
  refine Ev.pos (e3) ?_
  by_cases e4 : a4 = b4
  case neg =>
    rw [decide_eq_false (fun h => e4 h.2.2.2.2.1)]
    exact Ev.neg (fun h => e4 (ext_toList h)) (Ev.now _)
  refine Ev.pos (by rw [e4]) ?_
  refine Ev.bind (equal_ev a5 b5 (by have := h5; omega)) ?_
  by_cases e5 : a5 = b5
  case neg =>
    rw [decide_eq_false (fun h => e5 (map_toList_inj h))]
    rw [decide_eq_false (fun h => e5 h.2.2.2.2.2.1)]
    exact Ev.neg (fun h => by cases h) (Ev.now _)
  rw [decide_eq_true (congrArg (List.map ByteArray.toList) e5)]
  refine Ev.pos rfl ?_
  by_cases e6 : a6 = b6
  case neg =>
    rw [decide_eq_false (fun h => e6 h.2.2.2.2.2.2.1)]
    exact Ev.neg (e6) (Ev.now _)
  refine Ev.pos (e6) ?_
  by_cases e7 : a7 = b7
  case neg =>
    rw [decide_eq_false (fun h => e7 h.2.2.2.2.2.2.2.1)]
    exact Ev.neg (fun h => e7 (ext_toList h)) (Ev.now _)
  refine Ev.pos (by rw [e7]) ?_
  by_cases e8 : a8 = b8
  case neg =>
    rw [decide_eq_false (fun h => e8 h.2.2.2.2.2.2.2.2.1)]
    exact Ev.neg (fun h => e8 (ext_toList h)) (Ev.now _)
  refine Ev.pos (by rw [e8]) ?_
  refine Ev.bind (equal_ev a9 b9 (by have := h9; omega)) ?_
  by_cases e9 : a9 = b9
  · rw [decide_eq_true (congrArg (List.map ByteArray.toList) e9)]
    rw [decide_eq_true ⟨e0, e1, e2, e3, e4, e5, e6, e7, e8, e9⟩]
    exact Ev.now _
  · rw [decide_eq_false (fun h => e9 (map_toList_inj h))]
    rw [decide_eq_false (fun h => e9 h.2.2.2.2.2.2.2.2.2)]
    exact Ev.now _
theorem refSame_ev (a0 b0 : Int) (a1 b1 : ByteArray) (a2 b2 : ByteArray) (a3 b3 : Int) (a4 b4 : ByteArray) (a5 b5 : List ByteArray) (a6 b6 : Int) (a7 b7 : ByteArray) (a8 b8 : ByteArray) (a9 b9 : List ByteArray) (h5 : b5.length ≤ 100000000) (h9 : b9.length ≤ 100000000) : Ev (fun k => rafterref35_Same.f k a0 a1 a2 a3 a4 a5 a6 a7 a8 a9 b0 b1 b2 b3 b4 b5 b6 b7 b8 b9) (decide (a0 = b0 ∧ a1 = b1 ∧ a2 = b2 ∧ a3 = b3 ∧ a4 = b4 ∧ a5 = b5 ∧ a6 = b6 ∧ a7 = b7 ∧ a8 = b8 ∧ a9 = b9)) := by
  unfold rafterref35_Same.f
  by_cases e0 : a0 = b0
  case neg =>
    rw [decide_eq_false (fun h => e0 h.1)]
    exact Ev.neg (e0) (Ev.now _)
  refine Ev.pos (e0) ?_
  by_cases e1 : a1 = b1
  case neg =>
    rw [decide_eq_false (fun h => e1 h.2.1)]
    exact Ev.neg (fun h => e1 (ext_toList h)) (Ev.now _)
  refine Ev.pos (by rw [e1]) ?_
  by_cases e2 : a2 = b2
  case neg =>
    rw [decide_eq_false (fun h => e2 h.2.2.1)]
    exact Ev.neg (fun h => e2 (ext_toList h)) (Ev.now _)
  refine Ev.pos (by rw [e2]) ?_
  by_cases e3 : a3 = b3
  case neg =>
    rw [decide_eq_false (fun h => e3 h.2.2.2.1)]
    exact Ev.neg (e3) (Ev.now _)
  refine Ev.pos (e3) ?_
  by_cases e4 : a4 = b4
  case neg =>
    rw [decide_eq_false (fun h => e4 h.2.2.2.2.1)]
    exact Ev.neg (fun h => e4 (ext_toList h)) (Ev.now _)
  refine Ev.pos (by rw [e4]) ?_
  refine Ev.bind (ref_same a5 b5 (by have := h5; omega)) ?_
  by_cases e5 : a5 = b5
  case neg =>
    rw [decide_eq_false (fun h => e5 (h))]
    rw [decide_eq_false (fun h => e5 h.2.2.2.2.2.1)]
    exact Ev.neg (fun h => by cases h) (Ev.now _)
  rw [decide_eq_true (e5)]
  refine Ev.pos rfl ?_
  by_cases e6 : a6 = b6
  case neg =>
    rw [decide_eq_false (fun h => e6 h.2.2.2.2.2.2.1)]
    exact Ev.neg (e6) (Ev.now _)
  refine Ev.pos (e6) ?_
  by_cases e7 : a7 = b7
  case neg =>
    rw [decide_eq_false (fun h => e7 h.2.2.2.2.2.2.2.1)]
    exact Ev.neg (fun h => e7 (ext_toList h)) (Ev.now _)
  refine Ev.pos (by rw [e7]) ?_
  by_cases e8 : a8 = b8
  case neg =>
    rw [decide_eq_false (fun h => e8 h.2.2.2.2.2.2.2.2.1)]
    exact Ev.neg (fun h => e8 (ext_toList h)) (Ev.now _)
  refine Ev.pos (by rw [e8]) ?_
  refine Ev.bind (ref_same a9 b9 (by have := h9; omega)) ?_
  by_cases e9 : a9 = b9
  · rw [decide_eq_true (e9)]
    rw [decide_eq_true ⟨e0, e1, e2, e3, e4, e5, e6, e7, e8, e9⟩]
    exact Ev.now _
  · rw [decide_eq_false (fun h => e9 (h))]
    rw [decide_eq_false (fun h => e9 h.2.2.2.2.2.2.2.2.2)]
    exact Ev.now _
end Go.Proofs.YtloibeefopdhpaaDoor.Plain
