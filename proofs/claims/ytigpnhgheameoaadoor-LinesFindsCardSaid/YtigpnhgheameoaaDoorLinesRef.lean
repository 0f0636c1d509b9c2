/- Layer 3's reference in plain words. -/
import Derived.Test.YtigpnhgheameoaaDoorLines
import Derived.Test.YtigpnhgheameoaaDoorLinesText
import Derived.Test.YtigpnhgheameoaaDoorCodeRefL
import Derived.Test.YtigpnhgheameoaaDoorG12
set_option linter.unusedVariables false
namespace Go.Proofs.YtigpnhgheameoaaDoor.Plain
open Go.RowKit Go.Proofs.YtigpnhgheameoaaDoor.G Go.Proofs.YtigpnhgheameoaaDoorW.PrintWords Go.Proofs.YtigpnhgheameoaaDoorW.PrintLast Go.Proofs.YtigpnhgheameoaaDoorW.PrintMore

theorem runes_fuel : ∀ (n m : Nat) (l : List UInt8), l.length < n → l.length < m → runesOk n l = runesOk m l
  | 0, _, _, h, _ => absurd h (Nat.not_lt_zero _)
  | _, 0, _, _, h => absurd h (Nat.not_lt_zero _)
  | n + 1, m + 1, l, hn, hm => by
    unfold runesOk
    by_cases h : l = []
    · rw [if_pos h, if_pos h]
    · rw [if_neg h, if_neg h]
      have hw := Lib.decodeL_width l
      have hl : 0 < l.length := List.length_pos_iff.2 h
      rw [runes_fuel n m (l.drop (Lib.decodeL l).2) (by rw [List.length_drop]; omega) (by rw [List.length_drop]; omega)]
/-- A line's signs, from a place on. -/
def rest (l : List UInt8) : Bool := Lib.validD l && runesOk (l.length + 1) l
theorem rest_nil : rest [] = true := rfl
theorem rest_step (l : List UInt8) (h : l ≠ []) : rest l = if (Lib.decodeL l).1 = 65533 ∧ (Lib.decodeL l).2 = 1 then false else if (Lib.decodeL l).1 < 32 ∧ (Lib.decodeL l).1 ≠ 9 then false else rest (l.drop (Lib.decodeL l).2) := by
  have hw := Lib.decodeL_width l
  have hl : 0 < l.length := List.length_pos_iff.2 h
  unfold rest
  rw [Lib.validD_step l h]
  conv => lhs; rw [runesOk, if_neg h]
  by_cases h1 : (Lib.decodeL l).1 = 65533 ∧ (Lib.decodeL l).2 = 1
  · rw [if_pos h1, if_pos h1]; rfl
  · rw [if_neg h1, if_neg h1]
    by_cases h2 : (Lib.decodeL l).1 < 32 ∧ (Lib.decodeL l).1 ≠ 9
    · rw [if_pos h2, if_pos h2, Bool.and_false]
    · rw [if_neg h2, if_neg h2]
      rw [runes_fuel l.length ((l.drop (Lib.decodeL l).2).length + 1) (l.drop (Lib.decodeL l).2) (by rw [List.length_drop]; omega) (by omega)]
theorem decodeGo_B (l : List UInt8) (h : l ≠ []) : Lib.decodeGo (B l) = Lib.decodeL l := by
  have hs : (B l).size ≠ 0 := by rw [size_B]; have := List.length_pos_iff.2 h; omega
  rw [Lib.decodeGo, if_neg hs]
  rfl
theorem ref3_loop (s : ByteArray) (hs : s.size ≤ 100000) : ∀ (n i : Nat), s.size - i ≤ n → i ≤ s.size → Ev (fun k => rafterref03_Right.l0 k s (i : Int)) (rest (s.toList.drop i))
  | n, i, hn, hi => by
    have hlen := toList_length s
    by_cases h : i < s.size
    · obtain ⟨m, rfl⟩ : ∃ m, n = m + 1 := ⟨n - 1, by omega⟩
      have hne : s.toList.drop i ≠ [] := fun e => by have := List.drop_eq_nil_iff.1 e; omega
      have hw := Lib.decodeL_width (s.toList.drop i)
      have hw2 := Lib.decodeL_le (s.toList.drop i) hne
      rw [List.length_drop, hlen] at hw2
      have ih := ref3_loop s hs m (i + (Lib.decodeL (s.toList.drop i)).2) (by omega) (by omega)
      rw [rest_step _ hne, List.drop_drop]
      have hd : utf8_DecodeRuneInString.f (s.extract i s.size) = some (((Lib.decodeL (s.toList.drop i)).1 : Int), ((Lib.decodeL (s.toList.drop i)).2 : Int)) := by
        rw [utf8_DecodeRuneInString.f, extract_drop, decodeGo_B _ hne]
      generalize hdl : Lib.decodeL (s.toList.drop i) = d at *
      obtain ⟨c, w⟩ := d
      simp only at hw hw2 ih hd ⊢
      have hwr : wrap64 ((i : Int) + (w : Int)) = ((i + w : Nat) : Int) := by rw [wrap64_in (by omega) (by omega)]; omega
      by_cases h1 : c = 65533 ∧ w = 1
      · rw [if_pos h1]
        refine Ev.step (f := fun k => some false) (fun k => ?_) (Ev.now _)
        simp only [rafterref03_Right.l0]
        rw [if_pos (by omega), if_pos (by omega), if_pos (by omega), Int.toNat_natCast, hd]
        show (if (c : Int) = 65533 then _ else _) = _
        rw [if_pos (by omega)]
        show (if (w : Int) = 1 then _ else _) = _
        rw [if_pos (by omega)]
      · rw [if_neg h1]
        by_cases h2 : c < 32 ∧ c ≠ 9
        · rw [if_pos h2]
          refine Ev.step (f := fun k => some false) (fun k => ?_) (Ev.now _)
          simp only [rafterref03_Right.l0]
          rw [if_pos (by omega), if_pos (by omega), if_pos (by omega), Int.toNat_natCast, hd]
          show (if (c : Int) = 65533 then _ else (if (c : Int) < 32 then (if (c : Int) = 9 then _ else some false) else _)) = _
          rw [if_neg (by omega), if_pos (by omega), if_neg (by omega)]
        · rw [if_neg h2]
          refine Ev.step (fun k => ?_) ih
          simp only [rafterref03_Right.l0]
          rw [if_pos (by omega), if_pos (by omega), if_pos (by omega), Int.toNat_natCast, hd]
          simp only [Option.bind_some]
          rw [hwr]
          by_cases h3 : (c : Int) = 65533
          · rw [if_pos h3, if_neg (by omega), if_neg (by omega)]
          · rw [if_neg h3]
            by_cases h4 : (c : Int) < 32
            · rw [if_pos h4, if_pos (by omega)]
            · rw [if_neg h4]
    · have e : s.toList.drop i = [] := List.drop_eq_nil_of_le (by omega)
      rw [e, rest_nil]
      refine Ev.step (f := fun k => some true) (fun k => ?_) (Ev.now _)
      simp only [rafterref03_Right.l0]
      rw [if_neg (by omega)]
theorem ref3_right (s : ByteArray) (hs : s.size ≤ 100000) : Ev (fun k => rafterref03_Right.f k s) (lineOk s.toList) := by
  have hlen := toList_length s
  unfold rafterref03_Right.f lineOk
  by_cases h : s.size ≤ 200
  · have := ref3_loop s hs s.size 0 (by omega) (by omega)
    rw [List.drop_zero] at this
    rw [decide_eq_true (by omega), Bool.true_and]
    exact Ev.neg (by omega) this
  · rw [decide_eq_false (by omega)]
    exact Ev.pos (by omega) (Ev.now _)
theorem ref3_check_loop (l : List ByteArray) (hl : l.length ≤ 100000) : ∀ (t : List ByteArray) (i : Nat), l.drop i = t → (∀ x ∈ t, x.size ≤ 100000) → Ev (fun k => rafterref03_Check.l0 k l (i : Int)) (if (t.map ByteArray.toList).all lineOk then 0 else 6)
  | [], i, ht, hs => by
    have hge := List.drop_eq_nil_iff.1 ht
    refine Ev.step (f := fun k => some 0) (fun k => ?_) (Ev.now _)
    simp only [rafterref03_Check.l0]
    rw [if_neg (by omega)]
  | x :: t, i, ht, hs => by
    have hlt := drop_cons_lt ht
    have hw : wrap64 ((i : Int) + 1) = ((i + 1 : Nat) : Int) := by rw [wrap64_in (by omega) (by omega)]; omega
    refine Ev.step (f := fun k => (rafterref03_Right.f k x).bind fun t218 => (if t218 = true then (rafterref03_Check.l0 k l ((i + 1 : Nat) : Int)) else (some 6))) (fun k => ?_) (Ev.bind (ref3_right x (hs x List.mem_cons_self)) ?_)
    · simp only [rafterref03_Check.l0]
      rw [if_pos (by omega), if_pos (by omega), rdOf_cons ht, hw]
    · rw [List.map_cons, List.all_cons]
      by_cases h : lineOk x.toList = true
      · rw [h, Bool.true_and]
        exact Ev.pos rfl (ref3_check_loop l hl t (i + 1) (drop_cons_succ ht) (fun y hy => hs y (List.mem_cons_of_mem _ hy)))
      · rw [Bool.eq_false_iff.2 h, Bool.false_and]
        exact Ev.neg (by decide) (Ev.now _)
theorem ref3_check (l : List ByteArray) (hl : l.length ≤ 100000) (hs : ∀ x ∈ l, x.size ≤ 100000) : Ev (fun k => rafterref03_Check.f k l) (checkL (l.map ByteArray.toList)) := by
  unfold rafterref03_Check.f checkL
  rw [List.length_map]
  by_cases h : l.length > 2000
  · rw [if_pos h]
    exact Ev.pos (by omega) (Ev.now _)
  · rw [if_neg h]
    exact Ev.neg (by omega) (ref3_check_loop l hl _ 0 rfl hs)
theorem ref3_text_loop (l : List ByteArray) (hl : l.length ≤ 100000) : ∀ (t : List ByteArray) (i : Nat) (out : List UInt8), l.drop i = t → out.length + (textL (t.map ByteArray.toList)).length ≤ 100000000 → Ev (fun k => rafterref03_Text.l0 k l (B out) (i : Int)) (B (out ++ textL (t.map ByteArray.toList)))
  | [], i, out, ht, hs => by
    have hge := List.drop_eq_nil_iff.1 ht
    refine Ev.step (f := fun k => some _) (fun k => ?_) (Ev.now _)
    simp only [rafterref03_Text.l0]
    rw [if_neg (by omega)]
    simp [textL]
  | x :: t, i, out, ht, hs => by
    have hlt := drop_cons_lt ht
    have hw : wrap64 ((i : Int) + 1) = ((i + 1 : Nat) : Int) := by rw [wrap64_in (by omega) (by omega)]; omega
    have e1 : textL ((x :: t).map ByteArray.toList) = x.toList ++ [10] ++ textL (t.map ByteArray.toList) := by simp [textL]
    rw [e1, List.length_append, List.length_append, toList_length] at hs
    simp only [List.length_cons, List.length_nil] at hs
    have hc : B out ++ x ++ (⟨#[10]⟩ : ByteArray) = B (out ++ (x.toList ++ [10])) := ext_toList (by
      rw [toList_append, toList_append, toList_B, toList_B, show (⟨#[10]⟩ : ByteArray).toList = [10] from toList_B [10], List.append_assoc])
    have ih := ref3_text_loop l hl t (i + 1) (out ++ (x.toList ++ [10])) (drop_cons_succ ht) (by
      rw [List.length_append, List.length_append, toList_length]; simp only [List.length_cons, List.length_nil]; omega)
    rw [e1, ← List.append_assoc, ← List.append_assoc]
    rw [← List.append_assoc] at ih
    refine Ev.step (fun k => ?_) ih
    simp only [rafterref03_Text.l0]
    rw [if_pos (by omega), if_pos (by omega), rdOf_cons ht, if_pos (by rw [size_B]; omega), if_pos (by rw [ByteArray.size_append, size_B]; omega), hc, hw, List.append_assoc]
theorem ref3_text (l : List ByteArray) (hl : l.length ≤ 100000) (hs : (textL (l.map ByteArray.toList)).length ≤ 100000000) : Ev (fun k => rafterref03_Text.f k l) (B (textL (l.map ByteArray.toList))) := by
  have := ref3_text_loop l hl l 0 [] rfl (by simpa using hs)
  exact this

end Go.Proofs.YtigpnhgheameoaaDoor.Plain
