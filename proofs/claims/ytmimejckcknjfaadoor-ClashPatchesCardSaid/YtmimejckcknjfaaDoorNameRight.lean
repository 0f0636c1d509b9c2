/- name.Right: which texts are names; the walk, with the predicate that strings.IndexFunc is handed. -/
import Derived.Test.YtmimejckcknjfaaDoorG30
import Derived.Test.YtmimejckcknjfaaDoorTabs
import Derived.Laws.RangeString
import Derived.Laws.RangeAny
import Derived.Outline
set_option linter.unusedVariables false
namespace Go.Proofs.YtmimejckcknjfaaDoor.G
open Go.RowKit Go.Shelf Go.Proofs.YtmimejckcknjfaaDoorW.PrintWords Go.Proofs.YtmimejckcknjfaaDoorW.PrintLast Go.Proofs.YtmimejckcknjfaaDoor.Plain

def badN (x : Nat) : Bool := !((97 ≤ x && x ≤ 122) || (48 ≤ x && x ≤ 57) || x == 46 || x == 95 || x == 45)
def letter (c : UInt8) : Bool := !badN c.toNat
/-- May a text be a name? -/
def nameOk (l : List UInt8) : Bool := l != [] && decide (l.length ≤ 40) && l != [46] && l != [46, 46] && l.all letter
def name_Right.f (a0 : ByteArray) : Option Bool := some (nameOk a0.toList)

theorem bad_f (x : Nat) : name_Right_1.f (x : Int) = some (badN x) := by
  unfold name_Right_1.f badN
  repeat' split
  all_goals (congr 1; rw [Bool.eq_iff_iff]; simp; omega)
theorem bad_high {x : Nat} (h : 128 ≤ x) : badN x = true := by unfold badN; simp; omega
theorem idx_from (s : ByteArray) : ∀ (f pos : Nat), s.size - pos ≤ f → pos ≤ s.size → (decide (Lib.idxFuncFrom badN true s f pos < 0)) = (s.toList.drop pos).all letter
  | 0, pos, h, hp => by
    rw [List.drop_eq_nil_of_le (by rw [toList_length]; omega)]
    rfl
  | f + 1, pos, h, hp => by
    rw [Lib.idxFuncFrom]
    by_cases hlt : pos < s.size
    · have hl : pos < s.toList.length := by rw [toList_length]; exact hlt
      have hc : s.toList[pos] = s[pos] := by
        have h1 : s.toList[pos]? = some s[pos] := by
          rw [ByteArray.toList_eq, Array.getElem?_toList, Array.getElem?_eq_getElem hlt]
          rfl
        rw [List.getElem?_eq_getElem hl] at h1
        exact Option.some.inj h1
      rw [if_pos hlt, List.drop_eq_getElem_cons hl, List.all_cons, hc]
      by_cases ha : (s[pos]).toNat < 128
      · rw [decode_ascii s pos hlt ha]
        simp only
        by_cases hb : badN (s[pos]).toNat = true
        · rw [if_pos hb]
          simp [letter, hb]
        · rw [if_neg hb, idx_from s f (pos + 1) (by omega) (by omega)]
          simp [letter, hb]
      · have hd := (decode_high s pos hlt (by omega)).1
        rw [if_pos (bad_high hd)]
        simp [letter, bad_high (x := (s[pos]).toNat) (by omega)]
    · rw [if_neg hlt, List.drop_eq_nil_of_le (by rw [toList_length]; omega)]
      rfl
theorem idx_name (s : ByteArray) : (decide (Lib.idxFunc badN true s < 0)) = s.toList.all letter := by
  have := idx_from s s.size 0 (by omega) (by omega)
  rwa [List.drop_zero] at this

theorem bad_pred (w : World) : PredAtRunes Tryd.prog 54 #[] badN w := by
  intro W x hx hb
  refine (name_Right_1.calls (x : Int) (badN x) W (bad_f x)).mono ?_
  rintro e w' ⟨he, hd⟩
  exact ⟨he, hd.out⟩

theorem index_names (a0 : ByteArray) (w : World) :
    Calls Tryd.prog 55 #[.string a0, .func (.func 54) #[] #[]] w fun e w' => e = .returned (.int .i64 (Lib.idxFunc badN true a0)) ∧ Below w.heap.size w w' :=
  Tryd.strings_IndexFunc_runes 54 #[] (fun args w => enters_of Tryd.func54 (by kernel_rfl) rfl args w) badN a0 w (bad_pred w)

theorem name_Right.calls (a0 : ByteArray) (r : Bool) (w : World) (h : name_Right.f a0 = some r) :
    Calls Tryd.prog 47 #[.string a0] w fun e w' => e = .returned (.bool r) ∧ Below w.heap.size w w' := by
  injection h with h
  have HI := Aside0.mk (index_names a0)
  by_cases h1 : a0.toList = []
  · have hr : r = false := by rw [← h, nameOk, h1]; rfl
    subst hr
    clear h
    have g1 : (a0.toList == ([] : List UInt8)) = true := by rw [h1]; rfl
    have g2 : (a0.toList != ([] : List UInt8)) = false := by rw [h1]; rfl
    have g3 : a0.toList.isEmpty = true := by rw [h1]; rfl
    clear h1
    go_enter Tryd.func47, Tryd.ntmps47
    go_wp2
    go_ret
    exact ⟨rfl, Below.refl _ _⟩
  have g1 : (a0.toList == ([] : List UInt8)) = false := by simpa using h1
  have g2 : (a0.toList != ([] : List UInt8)) = true := by simpa using h1
  have g3 : a0.toList.isEmpty = false := by simpa using h1
  by_cases h2 : a0.size ≤ 40
  · have k1 : decide ((a0.size : Int) ≤ 40) = true := decide_eq_true (by omega)
    have k2 : decide (a0.size ≤ 40) = true := decide_eq_true h2
    by_cases h3 : a0.toList = [46]
    · have hr : r = false := by rw [← h, nameOk, h3]; rfl
      subst hr
      clear h
      have e1 : (a0.toList == ([46] : List UInt8)) = true := by simpa using h3
      have e2 : (a0.toList != ([46] : List UInt8)) = false := by simpa using h3
      clear h3 h1 HI
      go_enter Tryd.func47, Tryd.ntmps47
      go_wp2
      go_ret
      exact ⟨rfl, Below.refl _ _⟩
    have e1 : (a0.toList == ([46] : List UInt8)) = false := by simpa using h3
    have e2 : (a0.toList != ([46] : List UInt8)) = true := by simpa using h3
    by_cases h4 : a0.toList = [46, 46]
    · have hr : r = false := by rw [← h, nameOk, h4]; rfl
      subst hr
      clear h
      have e3 : (a0.toList == ([46, 46] : List UInt8)) = true := by simpa using h4
      have e4 : (a0.toList != ([46, 46] : List UInt8)) = false := by simpa using h4
      clear h3 h1 h4 HI
      go_enter Tryd.func47, Tryd.ntmps47
      go_wp2
      go_ret
      exact ⟨rfl, Below.refl _ _⟩
    have e3 : (a0.toList == ([46, 46] : List UInt8)) = false := by simpa using h4
    have e4 : (a0.toList != ([46, 46] : List UInt8)) = true := by simpa using h4
    have hr : r = decide (Lib.idxFunc badN true a0 < 0) := by
      rw [← h, idx_name, nameOk, toList_length]
      simp [h1, h2, h3, h4]
    clear h h1 h3 h4
    generalize Lib.idxFunc badN true a0 = n at HI hr
    have HR := Aside0.mk hr
    clear hr
    go_enter Tryd.func47, Tryd.ntmps47
    go_wp2_with (first | (go_at_call 55; refine (HI.out _).mono ?_; rintro e w1 ⟨rfl, hb⟩))
    go_ret
    exact ⟨by rw [HR.out]; rfl, hb⟩
  · have hr : r = false := by
      rw [← h, nameOk, toList_length]
      simp [h2]
    subst hr
    clear h h1 HI
    have k1 : decide ((a0.size : Int) ≤ 40) = false := decide_eq_false (by omega)
    have k2 : decide (a0.size ≤ 40) = false := decide_eq_false h2
    go_enter Tryd.func47, Tryd.ntmps47
    go_wp2
    go_ret
    exact ⟨rfl, Below.refl _ _⟩

end Go.Proofs.YtmimejckcknjfaaDoor.G
