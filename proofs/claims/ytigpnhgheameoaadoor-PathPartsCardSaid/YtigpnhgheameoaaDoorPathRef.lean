/- Layer 5's reference in plain words. -/
import Derived.Test.YtigpnhgheameoaaDoorPath
set_option linter.unusedVariables false
namespace Go.Proofs.YtigpnhgheameoaaDoor.Plain
open Go.RowKit Go.Proofs.YtigpnhgheameoaaDoor.G Go.Proofs.YtigpnhgheameoaaDoorW.PrintWords Go.Proofs.YtigpnhgheameoaaDoorW.PrintLast Go.Proofs.YtigpnhgheameoaaDoorW.PrintMore

def signs : ByteArray := (⟨#[97, 98, 99, 100, 101, 102, 103, 104, 105, 106, 107, 108, 109, 110, 111, 112, 113, 114, 115, 116, 117, 118, 119, 120, 121, 122, 48, 49, 50, 51, 52, 53, 54, 55, 56, 57, 46, 95, 45]⟩ : ByteArray)
theorem signs_size : signs.size = 39 := rfl
theorem letter_loop (c : UInt8) : ∀ (t : List UInt8) (i : Nat), signs.toList.drop i = t → Ev (fun k => rafterref02_letter.l0 k (c.toNat : Int) signs (i : Int)) (decide (c ∈ t))
  | [], i, ht => by
    have hge := drop_nil ht
    refine Ev.step (f := fun k => some _) (fun k => ?_) (Ev.now _)
    simp only [rafterref02_letter.l0]
    rw [if_neg (by omega)]
    rfl
  | b :: t, i, ht => by
    have hlt := drop_lt ht
    have hb := bt_cons ht
    have hz := signs_size
    have hw : wrap64 ((i : Int) + 1) = ((i + 1 : Nat) : Int) := by rw [wrap64_in (by omega) (by omega)]; omega
    by_cases e : b = c
    · refine Ev.step (f := fun k => some _) (fun k => ?_) (Ev.now _)
      simp only [rafterref02_letter.l0]
      rw [if_pos (by omega), if_pos (by omega), hb, if_pos (by rw [e])]
      rw [e]
      simp
    · have ih := letter_loop c t (i + 1) (drop_succ ht)
      have e2 : decide (c ∈ b :: t) = decide (c ∈ t) := by
        have : c ≠ b := fun h => e h.symm
        simp [this]
      rw [e2]
      refine Ev.step (fun k => ?_) ih
      simp only [rafterref02_letter.l0]
      rw [if_pos (by omega), if_pos (by omega), hb, if_neg (fun h => e (UInt8.toNat_inj.1 (by omega))), hw]
theorem letter_all : ∀ n : Fin 256, decide (UInt8.ofNat n.val ∈ signs.toList) = letter (UInt8.ofNat n.val) := by decide +kernel
theorem letter_mem (c : UInt8) : decide (c ∈ signs.toList) = letter c := by
  have h := letter_all ⟨c.toNat, c.toNat_lt⟩
  rwa [show UInt8.ofNat c.toNat = c from UInt8.toNat_inj.1 (by simp)] at h
theorem letter_ev (c : UInt8) : Ev (fun k => rafterref02_letter.f k (c.toNat : Int)) (letter c) := by
  rw [← letter_mem]
  exact letter_loop c signs.toList 0 rfl
theorem right_loop (s : ByteArray) (hs : s.size ≤ 1000000) : ∀ (t : List UInt8) (i : Nat), s.toList.drop i = t → Ev (fun k => rafterref02_Right.l0 k s (i : Int)) (t.all letter && (decide (1 ≤ s.size) && decide (s.size ≤ 40) && s.toList != [46] && s.toList != [46, 46]))
  | [], i, ht => by
    have hge := drop_nil ht
    refine Ev.step (f := fun k => some _) (fun k => ?_) (Ev.now _)
    simp only [rafterref02_Right.l0]
    rw [if_neg (by omega)]
    by_cases h1 : 1 ≤ s.size
    · rw [if_pos (by omega), decide_eq_true h1]
      by_cases h2 : s.size ≤ 40
      · rw [if_pos (by omega), decide_eq_true h2]
        by_cases h3 : s.toList = [46]
        · rw [if_pos h3, h3]; rfl
        · rw [if_neg h3]
          simp [h3]
      · rw [if_neg (by omega), decide_eq_false h2]; rfl
    · rw [if_neg (by omega), decide_eq_false h1]; rfl
  | b :: t, i, ht => by
    have hlt := drop_lt ht
    have hb := bt_cons ht
    have hw : wrap64 ((i : Int) + 1) = ((i + 1 : Nat) : Int) := by rw [wrap64_in (by omega) (by omega)]; omega
    refine Ev.step (f := fun k => (rafterref02_letter.f k (b.toNat : Int)).bind fun t178 => (if t178 = true then (rafterref02_Right.l0 k s ((i + 1 : Nat) : Int)) else (some false))) (fun k => ?_) ?_
    · simp only [rafterref02_Right.l0]
      rw [if_pos (by omega), if_pos (by omega), hb, hw]
    · refine Ev.bind (letter_ev b) ?_
      rw [List.all_cons]
      cases h : letter b with
      | true => exact Ev.pos rfl (right_loop s hs t (i + 1) (drop_succ ht))
      | false => exact Ev.neg (by decide) (Ev.now _)
theorem nameOk_eq (s : ByteArray) : (s.toList.all letter && (decide (1 ≤ s.size) && decide (s.size ≤ 40) && s.toList != [46] && s.toList != [46, 46])) = nameOk s.toList := by
  unfold nameOk
  have e : decide (1 ≤ s.size) = (s.toList != []) := by
    rw [Bool.eq_iff_iff]
    simp only [decide_eq_true_eq, bne_iff_ne]
    rw [← toList_length]
    constructor
    · intro h e
      rw [e] at h
      simp at h
    · intro h
      exact List.length_pos_iff.2 h
  rw [e, toList_length]
  cases s.toList.all letter <;> simp
theorem right_ev (s : ByteArray) (hs : s.size ≤ 1000000) : Ev (fun k => rafterref02_Right.f k s) (nameOk s.toList) := by
  have := right_loop s hs s.toList 0 rfl
  rw [nameOk_eq] at this
  exact Ev.congr (fun k => by rw [rafterref02_Right.f]; rfl) this

/-- The names, one by one, those before being 'out', and what was begun 'cur'. -/
def walkN : List UInt8 → List UInt8 → List (List UInt8) → List (List UInt8)
  | [], cur, out => if nameOk cur = true then (if (out ++ [cur]).length > 16 then [] else out ++ [cur]) else []
  | b :: l, cur, out => if b = 47 then (if nameOk cur = true then walkN l [] (out ++ [cur]) else []) else walkN l (cur ++ [b]) out
theorem walkN_eq : ∀ (l cur : List UInt8) (out : List (List UInt8)), (47 : UInt8) ∉ cur → walkN l cur out = if (splitL 47 (cur ++ l)).all nameOk = true ∧ ¬ (out ++ splitL 47 (cur ++ l)).length > 16 then out ++ splitL 47 (cur ++ l) else []
  | [], cur, out, h => by
    rw [List.append_nil, splitL_miss h, walkN]
    by_cases h1 : nameOk cur = true
    · rw [if_pos h1]
      by_cases h2 : (out ++ [cur]).length > 16
      · rw [if_pos h2, if_neg (fun h => h.2 h2)]
      · rw [if_neg h2, if_pos ⟨by simp [h1], h2⟩]
    · rw [if_neg h1, if_neg (fun h => h1 (by simpa using h.1))]
  | b :: l, cur, out, h => by
    rw [walkN]
    by_cases e : b = 47
    · subst e
      rw [if_pos rfl, splitL_hit h]
      by_cases h1 : nameOk cur = true
      · rw [if_pos h1, walkN_eq l [] (out ++ [cur]) (by simp), List.nil_append]
        simp only [List.all_cons, h1, Bool.true_and, List.append_assoc, List.cons_append, List.nil_append]
      · rw [if_neg h1, if_neg (fun h => h1 (by have := h.1; simp only [List.all_cons, Bool.and_eq_true] at this; exact this.1))]
    · rw [if_neg e, walkN_eq l (cur ++ [b]) out (by
        intro h2
        rcases List.mem_append.1 h2 with h2 | h2
        · exact h h2
        · simp at h2; exact e h2.symm)]
      simp
theorem names_walk (p : List UInt8) (h : p.length ≤ 200) : walkN p [] [] = names p := by
  rw [walkN_eq p [] [] (by simp), List.nil_append, List.nil_append]
  unfold names pathOk
  rw [decide_eq_true h]
  by_cases h1 : (splitL 47 p).all nameOk = true
  · by_cases h2 : (splitL 47 p).length ≤ 16
    · rw [if_pos ⟨h1, by omega⟩, if_pos (by simp only [h1, decide_eq_true h2]; rfl)]
    · rw [if_neg (fun h => h2 (by omega)), if_neg (by rw [decide_eq_false h2]; simp)]
  · rw [if_neg (fun h => h1 h.1), if_neg (by rw [Bool.and_eq_true]; exact fun h => h1 h.2)]
theorem names_loop (s : ByteArray) (hs : s.size ≤ 200) : ∀ (t : List UInt8) (i a : Nat) (out : List (List UInt8)), s.toList.drop i = t → a ≤ i → i ≤ s.size → out.length ≤ i → (47 : UInt8) ∉ (s.toList.drop a).take (i - a) →
    Ev (fun k => rafterref05_Names.l0 k s (out.map B) (a : Int) (i : Int)) ((walkN t ((s.toList.drop a).take (i - a)) out).map B)
  | [], i, a, out, ht, ha, hi, ho, hf => by
    have hge := drop_nil ht
    have e : s.size = i := by omega
    have hw : wrap64 ((i : Int) + 1) = ((i + 1 : Nat) : Int) := by rw [wrap64_in (by omega) (by omega)]; omega
    have hx : s.extract a i = B ((s.toList.drop a).take (i - a)) := extract_mid s a i
    refine Ev.step (f := fun k => rafterref05_Names.j1 k s (out.map B) (a : Int) (i : Int) false) (fun k => ?_) ?_
    · simp only [rafterref05_Names.l0]
      rw [if_pos (by omega), if_neg (by omega)]
    refine Ev.step (f := fun k => (rafterref02_Right.f k (B ((s.toList.drop a).take (i - a)))).bind fun t179 => (if t179 = true then (if (out.map B).length < 8796093022208 then (rafterref05_Names.l0 k s (out.map B ++ [B ((s.toList.drop a).take (i - a))]) ((i + 1 : Nat) : Int) ((i + 1 : Nat) : Int)) else (none)) else (some ([] : List ByteArray)))) (fun k => ?_) ?_
    · simp only [rafterref05_Names.j1]
      rw [if_neg (by decide), if_pos (by omega), if_pos (by omega), if_pos (by omega), Int.toNat_natCast, Int.toNat_natCast, hx, hw]
    have hr := right_ev (B ((s.toList.drop a).take (i - a))) (by rw [size_B, List.length_take]; omega)
    rw [toList_B] at hr
    refine Ev.bind hr ?_
    rw [walkN]
    by_cases h1 : nameOk ((s.toList.drop a).take (i - a)) = true
    · rw [if_pos h1]
      refine Ev.pos h1 (Ev.pos (by rw [List.length_map]; omega) ?_)
      refine Ev.step (f := fun k => some _) (fun k => ?_) (Ev.now _)
      simp only [rafterref05_Names.l0]
      rw [if_neg (by omega)]
      by_cases h2 : (out ++ [(s.toList.drop a).take (i - a)]).length > 16
      · rw [if_pos h2, if_pos (by simp at h2 ⊢; omega)]
        rfl
      · rw [if_neg h2, if_neg (by simp at h2 ⊢; omega)]
        simp
    · rw [if_neg h1]
      exact Ev.neg h1 (Ev.now _)
  | b :: t, i, a, out, ht, ha, hi, ho, hf => by
    have hlt := drop_lt ht
    have hb := bt_cons ht
    have hw : wrap64 ((i : Int) + 1) = ((i + 1 : Nat) : Int) := by rw [wrap64_in (by omega) (by omega)]; omega
    have hx : s.extract a i = B ((s.toList.drop a).take (i - a)) := extract_mid s a i
    refine Ev.step (f := fun k => rafterref05_Names.j1 k s (out.map B) (a : Int) (i : Int) ((b.toNat : Int) != 47)) (fun k => ?_) ?_
    · simp only [rafterref05_Names.l0]
      rw [if_pos (by omega), if_pos (by omega), if_pos (by omega), hb]
    rw [walkN]
    by_cases e : b = 47
    · subst e
      rw [if_pos rfl]
      refine Ev.step (f := fun k => (rafterref02_Right.f k (B ((s.toList.drop a).take (i - a)))).bind fun t179 => (if t179 = true then (if (out.map B).length < 8796093022208 then (rafterref05_Names.l0 k s (out.map B ++ [B ((s.toList.drop a).take (i - a))]) ((i + 1 : Nat) : Int) ((i + 1 : Nat) : Int)) else (none)) else (some ([] : List ByteArray)))) (fun k => ?_) ?_
      · simp only [rafterref05_Names.j1]
        rw [if_neg (by decide), if_pos (by omega), if_pos (by omega), if_pos (by omega), Int.toNat_natCast, Int.toNat_natCast, hx, hw]
      have hr := right_ev (B ((s.toList.drop a).take (i - a))) (by rw [size_B, List.length_take]; omega)
      rw [toList_B] at hr
      refine Ev.bind hr ?_
      by_cases h1 : nameOk ((s.toList.drop a).take (i - a)) = true
      · rw [if_pos h1]
        refine Ev.pos h1 (Ev.pos (by rw [List.length_map]; omega) ?_)
        have ih := names_loop s hs t (i + 1) (i + 1) (out ++ [(s.toList.drop a).take (i - a)]) (drop_succ ht) (Nat.le_refl _) (by omega) (by simp; omega) (by simp)
        rw [Nat.sub_self, List.take_zero, List.map_append] at ih
        exact ih
      · rw [if_neg h1]
        exact Ev.neg h1 (Ev.now _)
    · rw [if_neg e]
      have hne : ((b.toNat : Int) != 47) = true := by
        rw [bne_iff_ne]
        intro h
        exact e (UInt8.toNat_inj.1 (by show b.toNat = 47; omega))
      have hcur : (s.toList.drop a).take (i + 1 - a) = (s.toList.drop a).take (i - a) ++ [b] := by
        rw [show i + 1 - a = i - a + 1 by omega, List.take_add_one]
        congr 1
        rw [List.getElem?_drop, show a + (i - a) = i by omega]
        have := congrArg (fun l => l[0]?) ht
        simp at this
        rw [this]
        rfl
      have ih := names_loop s hs t (i + 1) a out (drop_succ ht) (by omega) (by omega) (by omega) (by
        rw [hcur]
        intro h2
        rcases List.mem_append.1 h2 with h2 | h2
        · exact hf h2
        · simp at h2; exact e h2.symm)
      rw [hcur] at ih
      refine Ev.step (fun k => ?_) ih
      simp only [rafterref05_Names.j1]
      rw [hne, if_pos rfl, hw]
theorem refNames_ev (s : ByteArray) (hs : s.size ≤ 100000) : Ev (fun k => rafterref05_Names.f k s) ((names s.toList).map B) := by
  unfold rafterref05_Names.f
  by_cases h : s.size ≤ 200
  · have := names_loop s h s.toList 0 0 [] rfl (Nat.le_refl _) (Nat.zero_le _) (Nat.le_refl _) (by simp)
    rw [List.drop_zero, Nat.sub_self, List.take_zero, names_walk _ (by rw [toList_length]; exact h)] at this
    exact Ev.neg (by omega) this
  · refine Ev.pos (by omega) ?_
    have : names s.toList = [] := by
      unfold names pathOk
      rw [decide_eq_false (by rw [toList_length]; exact h)]
      rfl
    rw [this]
    exact Ev.now _

theorem refLess_loop (a b : List ByteArray) (hl : a.length ≤ 1000000) (hb : b.length ≤ 1000000) : ∀ (n : Nat) (t u : List ByteArray) (i : Nat), t.length = n → a.drop i = t → b.drop i = u → i ≤ a.length → i ≤ b.length →
    Ev (fun k => rafterref05_Less.l0 k a b (i : Int)) (lessL (t.map ByteArray.toList) (u.map ByteArray.toList)) 
  | n, t, u, i, hn, ht, hu, hi, hi2 => by
    have htl : t.length = a.length - i := by rw [← ht, List.length_drop]
    have hul : u.length = b.length - i := by rw [← hu, List.length_drop]
    cases t with
    | nil =>
      refine Ev.step (f := fun k => rafterref05_Less.j2 k a b (i : Int) false) (fun k => ?_) ?_
      · simp only [rafterref05_Less.l0]
        simp only [List.length_nil] at htl
        rw [if_neg (by omega)]
      · refine Ev.step (f := fun k => some (decide ((a.length : Int) < (b.length : Int)))) (fun k => ?_) ?_
        · simp only [rafterref05_Less.j2]
          rw [if_neg (by decide)]
        · simp only [List.length_nil] at htl
          cases u with
          | nil =>
            simp only [List.length_nil] at hul
            rw [decide_eq_false (by omega)]
            exact Ev.now _
          | cons y u =>
            simp only [List.length_cons] at hul
            rw [decide_eq_true (by omega)]
            exact Ev.now _
    | cons x t =>
      cases u with
      | nil =>
        simp only [List.length_nil] at hul
        simp only [List.length_cons] at htl
        refine Ev.step (f := fun k => rafterref05_Less.j2 k a b (i : Int) false) (fun k => ?_) ?_
        · simp only [rafterref05_Less.l0]
          rw [if_pos (by omega), decide_eq_false (by omega)]
        · refine Ev.step (f := fun k => some (decide ((a.length : Int) < (b.length : Int)))) (fun k => ?_) ?_
          · simp only [rafterref05_Less.j2]
            rw [if_neg (by decide)]
          · rw [decide_eq_false (by omega)]
            exact Ev.now _
      | cons y u =>
        simp only [List.length_cons] at hul htl
        obtain ⟨m, rfl⟩ : ∃ m, n = m + 1 := ⟨t.length, by rw [← hn, List.length_cons]⟩
        have hw : wrap64 ((i : Int) + 1) = ((i + 1 : Nat) : Int) := by rw [wrap64_in (by omega) (by omega)]; omega
        refine Ev.step (f := fun k => rafterref05_Less.j2 k a b (i : Int) true) (fun k => ?_) ?_
        · simp only [rafterref05_Less.l0]
          rw [if_pos (by omega), decide_eq_true (by omega)]
        · simp only [List.map_cons, lessL]
          by_cases e : x.toList = y.toList
          · rw [if_pos e]
            refine Ev.step (fun k => ?_) (refLess_loop a b hl hb m t u (i + 1) (by rw [List.length_cons] at hn; omega) (succ_of_drop ht) (succ_of_drop hu) (by omega) (by omega))
            simp only [rafterref05_Less.j2]
            rw [if_pos trivial, if_pos (by omega), if_pos (by omega), if_pos (by omega), rdOf_at ht, rdOf_at hu, if_pos e, hw]
          · rw [if_neg e]
            refine Ev.step (f := fun k => some (Op.bytesLess x.toList y.toList)) (fun k => ?_) (Ev.now _)
            simp only [rafterref05_Less.j2]
            rw [if_pos trivial, if_pos (by omega), if_pos (by omega), if_pos (by omega), rdOf_at ht, rdOf_at hu, if_neg e]
theorem refLess_ev (a b : ByteArray) (ha : a.size ≤ 100000) (hb : b.size ≤ 100000) : Ev (fun k => rafterref05_Less.f k a b) (pathLess a.toList b.toList) := by
  unfold rafterref05_Less.f
  refine Ev.bind (refNames_ev a ha) (Ev.bind (refNames_ev b hb) ?_)
  have la := names_len a.toList
  have lb := names_len b.toList
  have hc := refLess_loop ((names a.toList).map B) ((names b.toList).map B) (by rw [List.length_map]; omega) (by rw [List.length_map]; omega) _ _ _ 0 rfl rfl rfl (by omega) (by omega)
  rw [List.drop_zero, List.drop_zero, map_B, map_B] at hc
  have hfalse : Ev (fun k => rafterref05_Less.j0 k a b ((names a.toList).map B) ((names b.toList).map B) false) (lessL (names a.toList) (names b.toList)) := by
    refine Ev.step (fun k => ?_) hc
    simp only [rafterref05_Less.j0]
    rw [if_neg (by decide)]
    rfl
  unfold pathLess
  rw [List.length_map, List.length_map]
  by_cases h1 : names a.toList = []
  · refine Ev.pos (by rw [h1]; rfl) ?_
    by_cases h2 : names b.toList = []
    · rw [if_pos ⟨h1, h2⟩]
      refine Ev.step (f := fun k => some _) (fun k => ?_) (Ev.now _)
      simp only [rafterref05_Less.j0]
      rw [if_pos (by rw [h2]; rfl)]
    · rw [if_neg (fun h => h2 h.2)]
      have e : ((((names b.toList).length : Nat) : Int) == 0) = false := by
        rw [beq_eq_false_iff_ne]
        intro h
        exact h2 (List.eq_nil_of_length_eq_zero (by omega))
      rw [e]
      exact hfalse
  · rw [if_neg (fun h => h1 h.1)]
    exact Ev.neg (fun h => h1 (List.eq_nil_of_length_eq_zero (by omega))) hfalse

end Go.Proofs.YtigpnhgheameoaaDoor.Plain
