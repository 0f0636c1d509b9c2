-- Words of the kit's print (as it laid them for this seat); what this claim does not use is left out.
import Derived.Test.YtloibeefopdhpaaDoorG15
import Derived.Test.YtloibeefopdhpaaDoorG22
set_option linter.unusedVariables false
namespace Go.Proofs.YtloibeefopdhpaaDoor.G
open Go.RowKit Go.Proofs.YtloibeefopdhpaaDoorW.PrintWords Go.Proofs.YtloibeefopdhpaaDoorW.PrintLast Go.Proofs.YtloibeefopdhpaaDoorW.PrintMore Go.Proofs.YtloibeefopdhpaaDoor.Plain
theorem rdOf_drop {l : List ByteArray} {i : Nat} {s : ByteArray} {t : List ByteArray} (h : l.drop i = s :: t) : rdOf ByteArray.empty l (i : Int) = s := by
  have : l[i]? = some s := by
    have := congrArg (fun l => l[0]?) h
    simpa using this
  rw [rdOf, Int.toNat_natCast, List.getD_eq_getElem?_getD, this]
  rfl
theorem equal_loop (a b : List ByteArray) (hl : a.length = b.length) (hm : a.length ≤ 9223372036854775807) : ∀ (t u : List ByteArray) (i : Nat), a.drop i = t → b.drop i = u →
    Ev (fun k => slices_Equal_string_string.l0 k a b (a.length : Int) (i : Int)) (decide (t.map ByteArray.toList = u.map ByteArray.toList))
  | [], u, i, ht, hu => by
    have hge := List.drop_eq_nil_iff.1 ht
    have e : u = [] := by rw [← hu]; exact List.drop_eq_nil_iff.2 (by omega)
    subst e
    refine Ev.step (f := fun k => some true) (fun k => ?_) (Ev.now _)
    simp only [slices_Equal_string_string.l0]
    rw [if_neg (by omega)]
  | x :: t, u, i, ht, hu => by
    have hlt : i < a.length := by
      rcases Nat.lt_or_ge i a.length with h' | h'
      · exact h'
      · rw [List.drop_eq_nil_of_le h'] at ht; cases ht
    have ht2 : a.drop (i + 1) = t := by rw [← List.drop_drop, ht]; rfl
    cases u with
    | nil =>
      have := List.drop_eq_nil_iff.1 hu
      omega
    | cons y u =>
      have hu2 : b.drop (i + 1) = u := by rw [← List.drop_drop, hu]; rfl
      have hw : wrap64 ((i : Int) + 1) = ((i + 1 : Nat) : Int) := by rw [wrap64_in (by omega) (by omega)]; omega
      by_cases e : x.toList = y.toList
      · have ih := equal_loop a b hl hm t u (i + 1) ht2 hu2
        have e2 : decide ((x :: t).map ByteArray.toList = (y :: u).map ByteArray.toList) = decide (t.map ByteArray.toList = u.map ByteArray.toList) := by simp [e]
        rw [e2]
        refine Ev.step (fun k => ?_) ih
        simp only [slices_Equal_string_string.l0]
        rw [if_pos (by omega), if_pos (by omega), if_pos (by omega), if_pos (by omega), rdOf_drop ht, rdOf_drop hu, if_pos e, hw]
      · have e2 : decide ((x :: t).map ByteArray.toList = (y :: u).map ByteArray.toList) = false := decide_eq_false (fun h => e (by simp at h; exact h.1))
        rw [e2]
        refine Ev.step (f := fun k => some false) (fun k => ?_) (Ev.now _)
        simp only [slices_Equal_string_string.l0]
        rw [if_pos (by omega), if_pos (by omega), if_pos (by omega), if_pos (by omega), rdOf_drop ht, rdOf_drop hu, if_neg e]
theorem equal_ev (a b : List ByteArray) (hm : b.length ≤ 9223372036854775806) : Ev (fun k => slices_Equal_string_string.f k a b) (decide (a.map ByteArray.toList = b.map ByteArray.toList)) := by
  unfold slices_Equal_string_string.f
  by_cases h : a.length = b.length
  · exact Ev.pos (by omega) (equal_loop a b h (by omega) _ _ 0 rfl rfl)
  · refine Ev.neg (by omega) ?_
    rw [decide_eq_false (fun e => h (by have := congrArg List.length e; simpa using this))]
    exact Ev.now _
end Go.Proofs.YtloibeefopdhpaaDoor.G
namespace Go.Proofs.YtloibeefopdhpaaDoor.Plain
open Go.RowKit Go.Proofs.YtloibeefopdhpaaDoor.G Go.Proofs.YtloibeefopdhpaaDoorW.PrintWords Go.Proofs.YtloibeefopdhpaaDoorW.PrintLast Go.Proofs.YtloibeefopdhpaaDoorW.PrintMore
theorem drop_cons_lt {α : Type} {l : List α} {i : Nat} {x : α} {t : List α} (h : l.drop i = x :: t) : i < l.length := by
  rcases Nat.lt_or_ge i l.length with h' | h'
  · exact h'
  · rw [List.drop_eq_nil_of_le h'] at h; cases h
theorem drop_cons_succ {α : Type} {l : List α} {i : Nat} {x : α} {t : List α} (h : l.drop i = x :: t) : l.drop (i + 1) = t := by
  rw [← List.drop_drop, h]
  rfl
theorem rdOf_cons {l : List ByteArray} {i : Nat} {x : ByteArray} {t : List ByteArray} (h : l.drop i = x :: t) : rdOf ByteArray.empty l (i : Int) = x := G.rdOf_drop h
theorem ref_same_loop (a b : List ByteArray) (hl : a.length ≤ 9223372036854775806) (hab : a.length = b.length) : ∀ (t u : List ByteArray) (i : Nat), a.drop i = t → b.drop i = u → Ev (fun k => rafterref01_Same.l0 k a b (i : Int)) (decide (t = u))
  | [], u, i, ht, hu => by
    have hge := List.drop_eq_nil_iff.1 ht
    have : u = [] := by rw [← hu]; exact List.drop_eq_nil_iff.2 (by omega)
    subst this
    refine Ev.step (f := fun k => some true) (fun k => ?_) (Ev.now _)
    simp only [rafterref01_Same.l0]
    rw [if_neg (by omega)]
  | x :: t, [], i, ht, hu => by
    have hlt := drop_cons_lt ht
    have hge := List.drop_eq_nil_iff.1 hu
    omega
  | x :: t, y :: u, i, ht, hu => by
    have hlt := drop_cons_lt ht
    have hlt' := drop_cons_lt hu
    have hw : wrap64 ((i : Int) + 1) = ((i + 1 : Nat) : Int) := by rw [wrap64_in (by omega) (by omega)]; omega
    by_cases h : x = y
    · subst h
      have ih := ref_same_loop a b hl hab t u (i + 1) (drop_cons_succ ht) (drop_cons_succ hu)
      have e : decide (x :: t = x :: u) = decide (t = u) := by simp
      rw [e]
      refine Ev.step (fun k => ?_) ih
      simp only [rafterref01_Same.l0]
      rw [if_pos (by omega), if_pos (by omega), if_pos (by omega), rdOf_cons ht, rdOf_cons hu, if_pos rfl, hw]
    · have e : decide (x :: t = y :: u) = false := by simp [h]
      rw [e]
      refine Ev.step (f := fun k => some false) (fun k => ?_) (Ev.now _)
      simp only [rafterref01_Same.l0]
      rw [if_pos (by omega), if_pos (by omega), if_pos (by omega), rdOf_cons ht, rdOf_cons hu, if_neg (fun e => h (ext_toList e))]
theorem ref_same (a b : List ByteArray) (hl : b.length ≤ 9223372036854775806) : Ev (fun k => rafterref01_Same.f k a b) (decide (a = b)) := by
  unfold rafterref01_Same.f
  by_cases h : a.length = b.length
  · exact Ev.pos (by omega) (ref_same_loop a b (by omega) h a b 0 (by simp) (by simp))
  · have e : decide (a = b) = false := decide_eq_false (fun e => h (by rw [e]))
    rw [e]
    exact Ev.neg (by omega) (Ev.now _)
theorem map_toList_inj : ∀ {a b : List ByteArray}, a.map ByteArray.toList = b.map ByteArray.toList → a = b
  | [], [], _ => rfl
  | [], _ :: _, h => by cases h
  | _ :: _, [], h => by cases h
  | x :: a, y :: b, h => by
    rw [List.map_cons, List.map_cons] at h
    injection h with h1 h2
    rw [ext_toList h1, map_toList_inj h2]
end Go.Proofs.YtloibeefopdhpaaDoor.Plain
