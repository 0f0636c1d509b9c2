/- Layer 5 in plain words: the names of a path; what the program and the reference make of any text. -/
import Derived.Test.YtigpnhgheameoaaDoorSplit
import Derived.Test.YtigpnhgheameoaaDoorPathRight
import Derived.Test.YtigpnhgheameoaaDoorG8
import Derived.Test.YtigpnhgheameoaaDoorG13
import Derived.Test.YtigpnhgheameoaaDoorG9
set_option linter.unusedVariables false
namespace Go.Proofs.YtigpnhgheameoaaDoor.Plain
open Go.RowKit Go.Proofs.YtigpnhgheameoaaDoor.G Go.Proofs.YtigpnhgheameoaaDoorW.PrintWords Go.Proofs.YtigpnhgheameoaaDoorW.PrintLast Go.Proofs.YtigpnhgheameoaaDoorW.PrintMore

def pathOk (p : List UInt8) : Bool := decide (p.length ≤ 200) && decide ((splitL 47 p).length ≤ 16) && (splitL 47 p).all nameOk
/-- A path's names; none: it is no path. -/
def names (p : List UInt8) : List (List UInt8) := if pathOk p = true then splitL 47 p else []

theorem all_B (l : List (List UInt8)) : (l.map B).all (fun x => nameOk x.toList) = l.all nameOk := by
  induction l with
  | nil => rfl
  | cons x l ih => simp [ih]
theorem pathRight_ev (s : ByteArray) (hs : s.size ≤ 100000) : Ev (fun k => path_Right.f k s) (pathOk s.toList) := by
  unfold path_Right.f
  refine Ev.bind (split_ev 47 s (by omega)) (Ev.congr (fun k => ?_) (Ev.now _))
  rw [all_B, List.length_map, pathOk, toList_length]
theorem pathSplit_ev (s : ByteArray) (hs : s.size ≤ 100000) : Ev (fun k => path_Split.f k s) ((names s.toList).map B) := by
  unfold path_Split.f
  refine Ev.bind (pathRight_ev s hs) ?_
  unfold names
  by_cases h : pathOk s.toList = true
  · rw [if_pos h]
    exact Ev.pos h (Ev.bind (split_ev 47 s (by omega)) (Ev.now _))
  · rw [if_neg h]
    exact Ev.neg h (Ev.now _)

/-! ### an order -/
theorem less_irrefl : ∀ a : List UInt8, Op.bytesLess a a = false
  | [] => rfl
  | a :: l => by
    simp only [Op.bytesLess]
    rw [less_irrefl l]
    simp
theorem less_asymm : ∀ a b : List UInt8, Op.bytesLess a b = true → Op.bytesLess b a = false
  | _, [], h => by simp [Op.bytesLess] at h
  | [], _ :: _, h => by simp [Op.bytesLess]
  | a :: x, b :: y, h => by
    simp only [Op.bytesLess, Bool.or_eq_true, decide_eq_true_eq, Bool.and_eq_true, beq_iff_eq, UInt8.lt_iff_toNat_lt] at h
    simp only [Op.bytesLess, Bool.or_eq_false_iff, decide_eq_false_iff_not, Bool.and_eq_false_iff, beq_eq_false_iff_ne, UInt8.lt_iff_toNat_lt]
    rcases h with h | ⟨h1, h2⟩
    · exact ⟨by omega, .inl (fun e => by rw [e] at h; omega)⟩
    · subst h1
      exact ⟨by omega, .inr (less_asymm x y h2)⟩
theorem less_total : ∀ a b : List UInt8, Op.bytesLess a b = false → Op.bytesLess b a = false → a = b
  | [], [], _, _ => rfl
  | [], _ :: _, h, _ => by simp [Op.bytesLess] at h
  | _ :: _, [], _, h => by simp [Op.bytesLess] at h
  | a :: x, b :: y, h1, h2 => by
    simp only [Op.bytesLess, Bool.or_eq_false_iff, decide_eq_false_iff_not, Bool.and_eq_false_iff, beq_eq_false_iff_ne, UInt8.lt_iff_toNat_lt] at h1 h2
    have e : a = b := UInt8.toNat_inj.1 (by omega)
    subst e
    rw [less_total x y (h1.2.resolve_left (fun h => h rfl)) (h2.2.resolve_left (fun h => h rfl))]
theorem less_trans : ∀ a b c : List UInt8, Op.bytesLess a b = true → Op.bytesLess b c = true → Op.bytesLess a c = true
  | _, [], _, h, _ => by simp [Op.bytesLess] at h
  | _, _ :: _, [], _, h => by simp [Op.bytesLess] at h
  | [], _ :: _, _ :: _, _, _ => by simp [Op.bytesLess]
  | a :: x, b :: y, c :: z, h1, h2 => by
    simp only [Op.bytesLess, Bool.or_eq_true, decide_eq_true_eq, Bool.and_eq_true, beq_iff_eq, UInt8.lt_iff_toNat_lt] at h1 h2 ⊢
    rcases h1 with h1 | ⟨e1, h1⟩ <;> rcases h2 with h2 | ⟨e2, h2⟩
    · exact .inl (by omega)
    · subst e2; exact .inl h1
    · subst e1; exact .inl h2
    · subst e1; subst e2; exact .inr ⟨rfl, less_trans x y z h1 h2⟩

/-- Names, one by one. -/
def lessL : List (List UInt8) → List (List UInt8) → Bool
  | [], y => !y.isEmpty
  | _ :: _, [] => false
  | a :: x, b :: y => if a = b then lessL x y else Op.bytesLess a b
def cmpL : List (List UInt8) → List (List UInt8) → Int
  | [], [] => 0
  | [], _ :: _ => -1
  | _ :: _, [] => 1
  | a :: x, b :: y => if Op.bytesLess a b = true then -1 else if a = b then cmpL x y else 1
theorem cmpL_less : ∀ x y, decide (cmpL x y < 0) = lessL x y
  | [], [] => rfl
  | [], _ :: _ => rfl
  | _ :: _, [] => rfl
  | a :: x, b :: y => by
    unfold cmpL lessL
    by_cases h : Op.bytesLess a b = true
    · have hne : a ≠ b := fun e => by rw [e, less_irrefl] at h; cases h
      rw [if_pos h, if_neg hne, h]
      rfl
    · rw [if_neg h]
      by_cases e : a = b
      · rw [if_pos e, if_pos e, cmpL_less x y]
      · rw [if_neg e, if_neg e]
        have : Op.bytesLess a b = false := by simpa using h
        rw [this]
        rfl
theorem lessL_asymm : ∀ x y, lessL x y = true → lessL y x = false
  | [], [], h => by simp [lessL] at h
  | [], _ :: _, _ => rfl
  | _ :: _, [], h => by simp [lessL] at h
  | a :: x, b :: y, h => by
    unfold lessL at h ⊢
    by_cases e : a = b
    · rw [if_pos e] at h
      rw [if_pos e.symm]
      exact lessL_asymm x y h
    · rw [if_neg e] at h
      rw [if_neg (fun h => e h.symm)]
      exact less_asymm a b h
theorem lessL_total : ∀ x y, lessL x y = false → lessL y x = false → x = y
  | [], [], _, _ => rfl
  | [], _ :: _, h, _ => by simp [lessL] at h
  | _ :: _, [], _, h => by simp [lessL] at h
  | a :: x, b :: y, h1, h2 => by
    unfold lessL at h1 h2
    by_cases e : a = b
    · rw [if_pos e] at h1
      rw [if_pos e.symm] at h2
      rw [e, lessL_total x y h1 h2]
    · rw [if_neg e] at h1
      rw [if_neg (fun h => e h.symm)] at h2
      exact absurd (less_total a b h1 h2) e
theorem lessL_trans : ∀ x y z, lessL x y = true → lessL y z = true → lessL x z = true
  | [], [], _, h, _ => by simp [lessL] at h
  | [], _ :: _, [], _, h => by simp [lessL] at h
  | [], _ :: _, _ :: _, _, _ => rfl
  | _ :: _, [], _, h, _ => by simp [lessL] at h
  | _ :: _, _ :: _, [], _, h => by simp [lessL] at h
  | a :: x, b :: y, c :: z, h1, h2 => by
    unfold lessL at h1 h2 ⊢
    by_cases e1 : a = b
    · subst e1
      rw [if_pos rfl] at h1
      by_cases e2 : a = c
      · rw [if_pos e2] at h2 ⊢
        exact lessL_trans x y z h1 h2
      · rw [if_neg e2] at h2 ⊢
        exact h2
    · rw [if_neg e1] at h1
      by_cases e2 : b = c
      · subst e2
        rw [if_neg e1]
        exact h1
      · rw [if_neg e2] at h2
        have h3 := less_trans a b c h1 h2
        have hne : a ≠ c := fun e => by rw [e, less_irrefl] at h3; cases h3
        rw [if_neg hne]
        exact h3

/-- Is a text ahead, as a path? -/
def pathLess (a b : List UInt8) : Bool := if names a = [] ∧ names b = [] then Op.bytesLess a b else lessL (names a) (names b)
theorem names_inj {a b : List UInt8} (h : names a = names b) (h0 : names a ≠ []) : a = b := by
  have ha : names a = splitL 47 a := by
    unfold names at h0 ⊢
    by_cases e : pathOk a = true
    · rw [if_pos e]
    · rw [if_neg e] at h0; exact absurd rfl h0
  have hb : names b = splitL 47 b := by
    rw [h] at h0
    unfold names at h0 ⊢
    by_cases e : pathOk b = true
    · rw [if_pos e]
    · rw [if_neg e] at h0; exact absurd rfl h0
  rw [← joinL_splitL 47 a, ← ha, h, hb, joinL_splitL]
theorem pathLess_asymm (a b : List UInt8) : pathLess a b = true → pathLess b a = false := by
  unfold pathLess
  by_cases h : names a = [] ∧ names b = []
  · rw [if_pos h, if_pos ⟨h.2, h.1⟩]
    exact less_asymm a b
  · rw [if_neg h, if_neg (fun e => h ⟨e.2, e.1⟩)]
    exact lessL_asymm _ _
theorem pathLess_total (a b : List UInt8) (h1 : pathLess a b = false) (h2 : pathLess b a = false) : a = b := by
  unfold pathLess at h1 h2
  by_cases h : names a = [] ∧ names b = []
  · rw [if_pos h] at h1
    rw [if_pos ⟨h.2, h.1⟩] at h2
    exact less_total a b h1 h2
  · rw [if_neg h] at h1
    rw [if_neg (fun e => h ⟨e.2, e.1⟩)] at h2
    have e := lessL_total _ _ h1 h2
    exact names_inj e (fun h0 => h ⟨h0, by rw [← e]; exact h0⟩)
theorem pathLess_trans (a b c : List UInt8) (h1 : pathLess a b = true) (h2 : pathLess b c = true) : pathLess a c = true := by
  unfold pathLess at h1 h2 ⊢
  by_cases ha : names a = []
  · by_cases hb : names b = []
    · rw [if_pos ⟨ha, hb⟩] at h1
      by_cases hc : names c = []
      · rw [if_pos ⟨hb, hc⟩] at h2
        rw [if_pos ⟨ha, hc⟩]
        exact less_trans a b c h1 h2
      · rw [if_neg (fun h => hc h.2), ha]
        cases h : names c with
        | nil => exact absurd h hc
        | cons x l => rfl
    · rw [if_neg (fun h => hb h.2)] at h1
      rw [if_neg (fun h => hb h.1)] at h2
      have h3 := lessL_trans _ _ _ h1 h2
      have hc : names c ≠ [] := by
        intro hc
        rw [ha, hc] at h3
        simp [lessL] at h3
      rw [if_neg (fun h => hc h.2)]
      exact h3
  · rw [if_neg (fun h => ha h.1)] at h1
    have hb : names b ≠ [] := by
      intro hb
      rw [hb] at h1
      cases h : names a with
      | nil => exact absurd h ha
      | cons x l => rw [h] at h1; simp [lessL] at h1
    rw [if_neg (fun h => hb h.1)] at h2
    rw [if_neg (fun h => ha h.1)]
    exact lessL_trans _ _ _ h1 h2

/-! ### path.Less -/
theorem rdOf_at {l : List ByteArray} {i : Nat} {s : ByteArray} {t : List ByteArray} (h : l.drop i = s :: t) : rdOf ByteArray.empty l (i : Int) = s := by
  have : l[i]? = some s := by
    have := congrArg (fun l => l[0]?) h
    simpa using this
  rw [rdOf, Int.toNat_natCast, List.getD_eq_getElem?_getD, this]
  rfl
theorem lt_of_drop {α : Type} {l : List α} {i : Nat} {s : α} {t : List α} (h : l.drop i = s :: t) : i < l.length := by
  rcases Nat.lt_or_ge i l.length with h' | h'
  · exact h'
  · rw [List.drop_eq_nil_of_le h'] at h; cases h
theorem succ_of_drop {α : Type} {l : List α} {i : Nat} {s : α} {t : List α} (h : l.drop i = s :: t) : l.drop (i + 1) = t := by
  rw [← List.drop_drop, h]
  rfl
theorem cmp_loop (a b : List ByteArray) (hl : a.length ≤ 1000000) (hb : b.length ≤ 1000000) : ∀ (t u : List ByteArray) (i : Nat), a.drop i = t → b.drop i = u → i ≤ a.length → i ≤ b.length →
    Ev (fun k => slices_Compare_string_string.l0 k a b a (a.length : Int) (i : Int)) (cmpL (t.map ByteArray.toList) (u.map ByteArray.toList))
  | [], u, i, ht, hu, hi, hi2 => by
    have hge := List.drop_eq_nil_iff.1 ht
    have hul : u.length = b.length - i := by rw [← hu, List.length_drop]
    cases u with
    | nil =>
      refine Ev.step (f := fun k => some _) (fun k => ?_) (Ev.now _)
      simp only [slices_Compare_string_string.l0]
      simp only [List.length_nil] at hul
      rw [if_neg (by omega), if_neg (by omega)]
      rfl
    | cons y u =>
      refine Ev.step (f := fun k => some _) (fun k => ?_) (Ev.now _)
      simp only [slices_Compare_string_string.l0]
      simp only [List.length_cons] at hul
      rw [if_neg (by omega), if_pos (by omega)]
      rfl
  | x :: t, [], i, ht, hu, hi, hi2 => by
    have hlt := lt_of_drop ht
    have hge := List.drop_eq_nil_iff.1 hu
    refine Ev.step (f := fun k => some _) (fun k => ?_) (Ev.now _)
    simp only [slices_Compare_string_string.l0]
    rw [if_pos (by omega), if_pos (by omega), if_pos (by omega), if_pos (by omega)]
    rfl
  | x :: t, y :: u, i, ht, hu, hi, hi2 => by
    have hlt := lt_of_drop ht
    have hlt2 := lt_of_drop hu
    have hw : wrap64 ((i : Int) + 1) = ((i + 1 : Nat) : Int) := by rw [wrap64_in (by omega) (by omega)]; omega
    simp only [List.map_cons, cmpL]
    by_cases h : Op.bytesLess x.toList y.toList = true
    · rw [if_pos h]
      refine Ev.step (f := fun k => some _) (fun k => ?_) (Ev.now _)
      simp only [slices_Compare_string_string.l0]
      rw [if_pos (by omega), if_pos (by omega), if_pos (by omega), if_neg (by omega), if_pos (by omega), rdOf_at ht, rdOf_at hu, cmp_Compare_string.f, if_pos h]
      rfl
    · rw [if_neg h]
      by_cases e : x.toList = y.toList
      · rw [if_pos e]
        refine Ev.step (fun k => ?_) (cmp_loop a b hl hb t u (i + 1) (succ_of_drop ht) (succ_of_drop hu) (by omega) (by omega))
        simp only [slices_Compare_string_string.l0]
        rw [if_pos (by omega), if_pos (by omega), if_pos (by omega), if_neg (by omega), if_pos (by omega), rdOf_at ht, rdOf_at hu, cmp_Compare_string.f, if_neg h, if_pos e, hw]
        rfl
      · rw [if_neg e]
        refine Ev.step (f := fun k => some _) (fun k => ?_) (Ev.now _)
        simp only [slices_Compare_string_string.l0]
        rw [if_pos (by omega), if_pos (by omega), if_pos (by omega), if_neg (by omega), if_pos (by omega), rdOf_at ht, rdOf_at hu, cmp_Compare_string.f, if_neg h, if_neg e]
        rfl
theorem map_B (l : List (List UInt8)) : (l.map B).map ByteArray.toList = l := by rw [List.map_map]; simp [Function.comp_def]
theorem names_len (p : List UInt8) : (names p).length ≤ 16 := by
  unfold names
  by_cases h : pathOk p = true
  · rw [if_pos h]
    simp only [pathOk, Bool.and_eq_true, decide_eq_true_eq] at h
    exact h.1.2
  · rw [if_neg h]; simp
theorem pathLess_ev (a b : ByteArray) (ha : a.size ≤ 100000) (hb : b.size ≤ 100000) : Ev (fun k => path_Less.f k a b) (pathLess a.toList b.toList) := by
  unfold path_Less.f
  refine Ev.bind (pathSplit_ev a ha) (Ev.bind (pathSplit_ev b hb) ?_)
  have la := names_len a.toList
  have lb := names_len b.toList
  have hc := cmp_loop ((names a.toList).map B) ((names b.toList).map B) (by rw [List.length_map]; omega) (by rw [List.length_map]; omega) _ _ 0 rfl rfl (by omega) (by omega)
  rw [List.drop_zero, List.drop_zero, map_B, map_B] at hc
  have hc2 : Ev (fun k => slices_Compare_string_string.f k ((names a.toList).map B) ((names b.toList).map B)) (cmpL (names a.toList) (names b.toList)) := Ev.congr (fun k => by rw [slices_Compare_string_string.f]; rfl) hc
  have hfin : Ev (fun k => (slices_Compare_string_string.f k ((names a.toList).map B) ((names b.toList).map B)).bind fun t => some (decide (t < 0))) (lessL (names a.toList) (names b.toList)) := by
    rw [← cmpL_less]
    exact Ev.bind hc2 (Ev.now _)
  unfold pathLess
  rw [List.length_map, List.length_map]
  by_cases h1 : names a.toList = []
  · refine Ev.pos (by rw [h1]; rfl) ?_
    by_cases h2 : names b.toList = []
    · rw [if_pos ⟨h1, h2⟩]
      exact Ev.pos (by rw [h2]; rfl) (Ev.now _)
    · rw [if_neg (fun h => h2 h.2)]
      refine Ev.neg (fun h => h2 (List.eq_nil_of_length_eq_zero (by omega))) hfin
  · rw [if_neg (fun h => h1 h.1)]
    exact Ev.neg (fun h => h1 (List.eq_nil_of_length_eq_zero (by omega))) hfin

end Go.Proofs.YtigpnhgheameoaaDoor.Plain
