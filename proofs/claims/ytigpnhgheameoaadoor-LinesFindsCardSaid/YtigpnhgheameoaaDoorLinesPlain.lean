/- Layer 3's program in plain words. -/
import Derived.Test.YtigpnhgheameoaaDoorLinesRef
import Derived.Test.YtigpnhgheameoaaDoorSplit
import Derived.Test.YtigpnhgheameoaaDoorG7
import Derived.Test.YtigpnhgheameoaaDoorG3
import Derived.Test.YtigpnhgheameoaaDoorG8
import Derived.Test.YtigpnhgheameoaaDoorG11
import Derived.Test.YtigpnhgheameoaaDoorG1
set_option linter.unusedVariables false
namespace Go.Proofs.YtigpnhgheameoaaDoor.Plain
open Go.RowKit Go.Proofs.YtigpnhgheameoaaDoor.G Go.Proofs.YtigpnhgheameoaaDoorW.PrintWords Go.Proofs.YtigpnhgheameoaaDoorW.PrintLast Go.Proofs.YtigpnhgheameoaaDoorW.PrintMore

theorem awake03 : Ev (fun k => rafterlaw03_awake.f k) true := Ev.of (fun k => rafterlaw03_awake.mono k) (k := 60) (by kernel_rfl)

theorem light_loop (l : List ByteArray) (hl : l.length ≤ 9223372036854775806) : ∀ (t : List ByteArray) (i : Nat), l.drop i = t → Ev (fun k => rafterlaw03_Light.l0 k l (i : Int)) (t.all (fun s => decide (s.size ≤ 300)) && decide (l.length ≤ 60))
  | [], i, ht => by
    have hge := List.drop_eq_nil_iff.1 ht
    refine Ev.step (f := fun k => some _) (fun k => ?_) (Ev.now _)
    simp only [rafterlaw03_Light.l0]
    rw [if_neg (by omega)]
    congr 1
    rw [List.all_nil, Bool.true_and, Bool.eq_iff_iff]
    simp only [decide_eq_true_eq]
    omega
  | x :: t, i, ht => by
    have hlt := drop_cons_lt ht
    have hw : wrap64 ((i : Int) + 1) = ((i + 1 : Nat) : Int) := by rw [wrap64_in (by omega) (by omega)]; omega
    rw [List.all_cons]
    by_cases h : x.size ≤ 300
    · rw [decide_eq_true h, Bool.true_and]
      refine Ev.step (fun k => ?_) (light_loop l hl t (i + 1) (drop_cons_succ ht))
      simp only [rafterlaw03_Light.l0]
      rw [if_pos (by omega), if_pos (by omega), rdOf_cons ht, if_neg (by omega), hw]
    · rw [decide_eq_false h, Bool.false_and, Bool.false_and]
      refine Ev.step (f := fun k => some false) (fun k => ?_) (Ev.now _)
      simp only [rafterlaw03_Light.l0]
      rw [if_pos (by omega), if_pos (by omega), rdOf_cons ht, if_pos (by omega)]
theorem light03 (l : List ByteArray) (hl : l.length ≤ 9223372036854775806) : Ev (fun k => rafterlaw03_Light.f k l) (l.all (fun s => decide (s.size ≤ 300)) && decide (l.length ≤ 60)) := light_loop l hl _ 0 rfl
theorem map_B10 (l : List (List UInt8)) : (l.map B).map ByteArray.toList = l := by rw [List.map_map]; simp [Function.comp_def]
theorem total_le : ∀ (l : List ByteArray) (c : Nat), (∀ s ∈ l, s.size ≤ c) → total l ≤ (c + 10) * l.length
  | [], c, h => by simp [total]
  | s :: l, c, h => by
    have := total_le l c (fun y hy => h y (List.mem_cons_of_mem _ hy))
    have h2 := h s List.mem_cons_self
    rw [total, List.length_cons, Nat.mul_add]
    omega
theorem textL_cons (x : List UInt8) (l : List (List UInt8)) : textL (x :: l) = x ++ 10 :: textL l := by simp [textL]
theorem textL_joinL : ∀ {l : List (List UInt8)}, l ≠ [] → textL l = joinL 10 l ++ [10]
  | [], h => absurd rfl h
  | [x], _ => by simp [textL, joinL]
  | x :: y :: l, _ => by
    rw [textL_cons, textL_joinL (l := y :: l) (by simp), joinL_cons 10 x (by simp)]
    simp
/-- The lines of a text; the error. -/
def splitRes (s : List UInt8) : List (List UInt8) × Int :=
  if s = [] then ([], 0) else if s.getLast? = some 10 then (if checkL (splitL 10 s.dropLast) = 0 then (splitL 10 s.dropLast, 0) else ([], checkL (splitL 10 s.dropLast))) else ([], 6)
theorem suffix_ev (s : ByteArray) (hs : s.size ≤ 100000000) (h : s.toList ≠ []) : strings_CutSuffix.f s (⟨#[10]⟩ : ByteArray) = some (if s.toList.getLast? = some 10 then (B s.toList.dropLast, true) else (s, false)) := by
  have hlen := toList_length s
  have h0 : 0 < s.toList.length := List.length_pos_iff.2 h
  have h1 : (⟨#[10]⟩ : ByteArray).size = 1 := rfl
  have hw : wrap64 ((s.size : Int) - (((⟨#[10]⟩ : ByteArray).size : Nat) : Int)) = ((s.size - 1 : Nat) : Int) := by rw [h1, wrap64_in (by omega) (by omega)]; omega
  have hd : s.toList.drop (s.size - 1) = [s.toList.getLast h] := by
    rw [← hlen, List.drop_eq_getElem_cons (by omega), List.getLast_eq_getElem, List.drop_eq_nil_of_le (by omega)]
  have hl : s.toList.getLast? = some (s.toList.getLast h) := List.getLast?_eq_some_getLast h
  have hx : stringslite_HasSuffix.f s (⟨#[10]⟩ : ByteArray) = some (decide (s.toList.getLast h = 10)) := by
    unfold stringslite_HasSuffix.f
    rw [hw, if_pos (by rw [h1]; omega), if_pos (by omega), if_pos (by omega), Int.toNat_natCast, extract_drop, toList_B, hd, show (⟨#[10]⟩ : ByteArray).toList = [10] from toList_B [10]]
    congr 1
    rw [Bool.eq_iff_iff]
    simp
  unfold strings_CutSuffix.f stringslite_CutSuffix.f
  rw [hx, hl]
  by_cases e : s.toList.getLast h = 10
  · rw [decide_eq_true e, e, if_pos rfl]
    simp only [Option.bind_some, if_true]
    rw [hw, if_pos (by omega), if_pos (by omega), Int.toNat_natCast, extract_take, ← hlen, List.dropLast_eq_take]
    rfl
  · rw [decide_eq_false e]
    simp [e]
theorem split3_ev (s : ByteArray) (hs : s.size ≤ 1000000) : Ev (fun k => lines_Split.f k s) ((splitRes s.toList).1.map B, (splitRes s.toList).2) := by
  unfold lines_Split.f splitRes
  by_cases h : s.toList = []
  · refine Ev.pos h ?_
    rw [if_pos h]
    exact Ev.now _
  · refine Ev.neg h ?_
    rw [if_neg h, suffix_ev s (by omega) h]
    by_cases e : s.toList.getLast? = some 10
    · rw [if_pos e, if_pos e]
      have hsp := split_ev 10 (B s.toList.dropLast) (by rw [size_B, List.length_dropLast, toList_length]; omega)
      rw [toList_B] at hsp
      refine Ev.bind_now (Ev.pos rfl (Ev.bind hsp ?_))
      rw [lines_Check.f, map_B10]
      refine Ev.bind_now ?_
      by_cases c : checkL (splitL 10 s.toList.dropLast) = 0
      · refine Ev.pos c ?_
        rw [if_pos c]
        exact Ev.now _
      · refine Ev.neg c ?_
        rw [if_neg c]
        exact Ev.now _
    · rw [if_neg e, if_neg e]
      exact Ev.bind_now (Ev.neg (fun h => by cases h) (Ev.now _))

/-- What Put lays; what Get reads. -/
theorem put3_ev (l : List ByteArray) (hl : l.length ≤ 100000) (ht : total l + 10 ≤ 140737488355328) :
    Ev (fun k => lines_Put.f k l) (if checkL (l.map ByteArray.toList) = 0 then B (encL (l.map ByteArray.toList)) else B [], checkL (l.map ByteArray.toList)) := by
  unfold lines_Put.f
  rw [lines_Check.f]
  refine Ev.bind_now ?_
  by_cases c : checkL (l.map ByteArray.toList) = 0
  · refine Ev.pos c (Ev.bind (code_list l (by omega) ht) ?_)
    rw [if_pos c, c]
    exact Ev.now _
  · refine Ev.neg c ?_
    rw [if_neg c]
    exact Ev.now _
def getRes (s : List UInt8) : List (List UInt8) × Int := match dlist s with
  | .inl e => ([], e)
  | .inr (xs, t) => if t = [] then (if checkL xs = 0 then (xs, 0) else ([], checkL xs)) else ([], 6)
theorem get3_ev (s : ByteArray) (hs : s.size ≤ 100000000) : Ev (fun k => lines_Get.f k s) ((getRes s.toList).1.map B, (getRes s.toList).2) := by
  unfold lines_Get.f
  rw [code_Read.f]
  have hL := rdList s (by omega)
  unfold getRes
  cases hd : dlist s.toList with
  | inl e =>
    rw [hd] at hL
    replace hL : Ev (fun k => code_Reader_List.f k s 0) (([] : List ByteArray), B [], e) := hL
    have he := dlist_err hd
    refine Ev.bind_now (Ev.bind hL ?_)
    dsimp only
    rw [code_Reader_Err.f]
    refine Ev.bind_now ?_
    dsimp only
    refine Ev.neg (by omega) ?_
    exact Ev.bind_now (Ev.now _)
  | inr p =>
    obtain ⟨xs, t⟩ := p
    rw [hd] at hL
    replace hL : Ev (fun k => code_Reader_List.f k s 0) (xs.map B, B t, (0 : Int)) := hL
    refine Ev.bind_now (Ev.bind hL ?_)
    dsimp only
    rw [code_Reader_Err.f]
    refine Ev.bind_now ?_
    dsimp only
    refine Ev.pos rfl ?_
    rw [code_Reader_Left.f]
    refine Ev.bind_now ?_
    dsimp only
    rw [size_B]
    by_cases h : t = []
    · refine Ev.neg (by rw [h]; simp) ?_
      rw [if_pos h, lines_Check.f, map_B10]
      refine Ev.bind_now ?_
      by_cases c : checkL xs = 0
      · refine Ev.pos c ?_
        rw [if_pos c]
        exact Ev.now _
      · refine Ev.neg c ?_
        rw [if_neg c]
        exact Ev.now _
    · have := List.length_pos_iff.2 h
      refine Ev.pos (by omega) ?_
      rw [if_neg h]
      exact Ev.now _

end Go.Proofs.YtigpnhgheameoaaDoor.Plain
