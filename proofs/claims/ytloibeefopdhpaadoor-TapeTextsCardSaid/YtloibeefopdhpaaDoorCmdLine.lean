-- Words of the kit's print (as it laid them for this seat); what this claim does not use is left out.
import Derived.Test.YtloibeefopdhpaaDoorCmdParsePlain
import Derived.Test.YtloibeefopdhpaaDoorCmdSame
set_option linter.unusedVariables false
set_option linter.unusedSimpArgs false
namespace Go.Proofs.YtloibeefopdhpaaDoor.Plain
open Go.RowKit Go.Proofs.YtloibeefopdhpaaDoor.G Go.Proofs.YtloibeefopdhpaaDoorW.PrintWords Go.Proofs.YtloibeefopdhpaaDoorW.PrintLast Go.Proofs.YtloibeefopdhpaaDoorW.PrintMore
abbrev eT : ByteArray := ⟨#[]⟩
theorem eT_nil : eT.toList = [] := toList_B []
theorem nil_iff (s : ByteArray) : s.toList = [] ↔ s = eT := ⟨fun h => ext_toList (by rw [h, eT_nil]), fun h => by rw [h, eT_nil]⟩
theorem nil_beq (s : ByteArray) : (s.toList == []) = decide (s = eT) := by
  by_cases h : s = eT
  · rw [h, eT_nil, decide_eq_true rfl]; rfl
  · rw [decide_eq_false h]
    exact beq_eq_false_iff_ne.2 fun e => h ((nil_iff s).1 e)
theorem em2 {α : Type} (a b : α) : a = b ∨ (¬ a = b ∧ ¬ b = a) := (Classical.em (a = b)).imp id fun h => ⟨h, fun e => h e.symm⟩
abbrev TStepT := Int × ByteArray × ByteArray × Int × ByteArray × List ByteArray × Int × ByteArray × ByteArray × List ByteArray
abbrev EqS (x y : TStepT) : Prop := x.1 = y.1 ∧ x.2.1 = y.2.1 ∧ x.2.2.1 = y.2.2.1 ∧ x.2.2.2.1 = y.2.2.2.1 ∧ x.2.2.2.2.1 = y.2.2.2.2.1 ∧ x.2.2.2.2.2.1 = y.2.2.2.2.2.1 ∧ x.2.2.2.2.2.2.1 = y.2.2.2.2.2.2.1 ∧ x.2.2.2.2.2.2.2.1 = y.2.2.2.2.2.2.2.1 ∧ x.2.2.2.2.2.2.2.2.1 = y.2.2.2.2.2.2.2.2.1 ∧ x.2.2.2.2.2.2.2.2.2 = y.2.2.2.2.2.2.2.2.2
def Fits (a0 : Int) (a1 a2 : ByteArray) (a3 : Int) (a4 : ByteArray) (a5 : List ByteArray) (a6 : Int) (a7 a8 : ByteArray) (a9 : List ByteArray) (s : S93) (l : List ByteArray) : Prop :=
  ∃ x : TStepT, findS (stepP a0 a3 a6) shapesL = (s, true) ∧ findS (verbP s.f0) shapesL = (s, true) ∧ cmd_texts.f 20 a0 a1 a2 a3 a4 a5 a6 a7 a8 a9 s.f0 = some l ∧ cmd_fill.f s.f0 s.f1 s.f2 s.f3 s.f4 s.f5 l = some x ∧
    (∀ k, rafterref35_Line.f (k + 20) a0 a1 a2 a3 a4 a5 a6 a7 a8 a9 = some (if EqS x (a0, a1, a2, a3, a4, a5, a6, a7, a8, a9) then s.f0 :: l else [])) ∧ ((32 : UInt8) ∉ s.f0.toList ∧ s.f0.size ≤ 20) ∧ (s.f4 ≤ (l.length : Int) ∧ ¬ (s.f4 < (l.length : Int) ∧ s.f5 = false))
theorem none_f (a6 : Int) (a7 a8 : ByteArray) (a9 : List ByteArray) : rafterref35_none.f a6 a7 a8 a9 = some (decide (a7 = eT ∧ a8 = eT ∧ a9 = [])) := by
  unfold rafterref35_none.f
  simp only [nil_iff]
  by_cases h7 : a7 = eT
  · by_cases h8 : a8 = eT
    · cases a9 with
      | nil => simp [h7, h8]
      | cons x l =>
        rw [if_pos h7, if_pos h8, decide_eq_false (fun h => by cases h.2.2)]
        rw [beq_eq_false_iff_ne.2 (by rw [List.length_cons]; omega)]
    · simp [h7, h8]
  · simp [h7]
attribute [local simp] rafterref35_Line.f lineV none_f rafterref35_edit.f rafterref35_edit.j0 nil_iff nil_beq rdOf
theorem fits_init (a1 a2 : ByteArray) (a3 : Int) (a4 : ByteArray) (a5 : List ByteArray) (a6 : Int) (a7 a8 : ByteArray) (a9 : List ByteArray) (h5 : a5.length ≤ 100000) (h9 : a9.length ≤ 100000) : Fits 0 a1 a2 a3 a4 a5 a6 a7 a8 a9 (⟨(⟨#[105, 110, 105, 116]⟩ : ByteArray), 0, 0, 0, 1, false⟩ : S93) ([a1]) := by
  refine ⟨_, by kernel_rfl, by kernel_rfl, ?_, (shape_init a1).1, ?_, of_decide_eq_true (by kernel_rfl), by simp only [List.length_cons, List.length_nil]; omega, by simp⟩
  · kernel_rfl
  · intro k
    obtain rfl | ⟨m1, m2⟩ := em2 a2 eT; rotate_left; · simp [EqS, m1, m2]
    obtain rfl | ⟨m1, m2⟩ := em2 a7 eT; rotate_left; · simp [EqS, m1, m2]
    obtain rfl | ⟨m1, m2⟩ := em2 a8 eT; rotate_left; · simp [EqS, m1, m2]
    obtain rfl | ⟨m1, m2⟩ := em2 a9 []; rotate_left; · simp [EqS, m1, m2, List.length_pos_iff.2 m1]
    obtain rfl | ⟨m1, m2⟩ := em2 a6 0; rotate_left; · simp [EqS, m1, m2]
    obtain rfl | ⟨m1, m2⟩ := em2 a5 []; rotate_left; · simp [EqS, m1, m2, List.length_pos_iff.2 m1]
    obtain rfl | ⟨m1, m2⟩ := em2 a4 eT; rotate_left; · simp [EqS, m1, m2]
    obtain rfl | ⟨m1, m2⟩ := em2 a3 0; rotate_left; · simp [EqS, m1, m2]
    simp [EqS]
theorem fits_log (a1 a2 : ByteArray) (a3 : Int) (a4 : ByteArray) (a5 : List ByteArray) (a6 : Int) (a7 a8 : ByteArray) (a9 : List ByteArray) (h5 : a5.length ≤ 100000) (h9 : a9.length ≤ 100000) : Fits 2 a1 a2 a3 a4 a5 a6 a7 a8 a9 (⟨(⟨#[108, 111, 103]⟩ : ByteArray), 2, 0, 0, 1, false⟩ : S93) ([a1]) := by
  refine ⟨_, by kernel_rfl, by kernel_rfl, ?_, (shape_log a1).1, ?_, of_decide_eq_true (by kernel_rfl), by simp only [List.length_cons, List.length_nil]; omega, by simp⟩
  · kernel_rfl
  · intro k
    obtain rfl | ⟨m1, m2⟩ := em2 a2 eT; rotate_left; · simp [EqS, m1, m2]
    obtain rfl | ⟨m1, m2⟩ := em2 a7 eT; rotate_left; · simp [EqS, m1, m2]
    obtain rfl | ⟨m1, m2⟩ := em2 a8 eT; rotate_left; · simp [EqS, m1, m2]
    obtain rfl | ⟨m1, m2⟩ := em2 a9 []; rotate_left; · simp [EqS, m1, m2, List.length_pos_iff.2 m1]
    obtain rfl | ⟨m1, m2⟩ := em2 a6 0; rotate_left; · simp [EqS, m1, m2]
    obtain rfl | ⟨m1, m2⟩ := em2 a5 []; rotate_left; · simp [EqS, m1, m2, List.length_pos_iff.2 m1]
    obtain rfl | ⟨m1, m2⟩ := em2 a4 eT; rotate_left; · simp [EqS, m1, m2]
    obtain rfl | ⟨m1, m2⟩ := em2 a3 0; rotate_left; · simp [EqS, m1, m2]
    simp [EqS]
theorem fits_new (a1 a2 : ByteArray) (a3 : Int) (a4 : ByteArray) (a5 : List ByteArray) (a6 : Int) (a7 a8 : ByteArray) (a9 : List ByteArray) (h5 : a5.length ≤ 100000) (h9 : a9.length ≤ 100000) : Fits 3 a1 a2 a3 a4 a5 a6 a7 a8 a9 (⟨(⟨#[110, 101, 119]⟩ : ByteArray), 3, 0, 0, 1, false⟩ : S93) ([a1]) := by
  refine ⟨_, by kernel_rfl, by kernel_rfl, ?_, (shape_new a1).1, ?_, of_decide_eq_true (by kernel_rfl), by simp only [List.length_cons, List.length_nil]; omega, by simp⟩
  · kernel_rfl
  · intro k
    obtain rfl | ⟨m1, m2⟩ := em2 a2 eT; rotate_left; · simp [EqS, m1, m2]
    obtain rfl | ⟨m1, m2⟩ := em2 a7 eT; rotate_left; · simp [EqS, m1, m2]
    obtain rfl | ⟨m1, m2⟩ := em2 a8 eT; rotate_left; · simp [EqS, m1, m2]
    obtain rfl | ⟨m1, m2⟩ := em2 a9 []; rotate_left; · simp [EqS, m1, m2, List.length_pos_iff.2 m1]
    obtain rfl | ⟨m1, m2⟩ := em2 a6 0; rotate_left; · simp [EqS, m1, m2]
    obtain rfl | ⟨m1, m2⟩ := em2 a5 []; rotate_left; · simp [EqS, m1, m2, List.length_pos_iff.2 m1]
    obtain rfl | ⟨m1, m2⟩ := em2 a4 eT; rotate_left; · simp [EqS, m1, m2]
    obtain rfl | ⟨m1, m2⟩ := em2 a3 0; rotate_left; · simp [EqS, m1, m2]
    simp [EqS]
theorem fits_conflicts (a1 a2 : ByteArray) (a3 : Int) (a4 : ByteArray) (a5 : List ByteArray) (a6 : Int) (a7 a8 : ByteArray) (a9 : List ByteArray) (h5 : a5.length ≤ 100000) (h9 : a9.length ≤ 100000) : Fits 4 a1 a2 a3 a4 a5 a6 a7 a8 a9 (⟨(⟨#[99, 111, 110, 102, 108, 105, 99, 116, 115]⟩ : ByteArray), 4, 0, 0, 1, false⟩ : S93) ([a1]) := by
  refine ⟨_, by kernel_rfl, by kernel_rfl, ?_, (shape_conflicts a1).1, ?_, of_decide_eq_true (by kernel_rfl), by simp only [List.length_cons, List.length_nil]; omega, by simp⟩
  · kernel_rfl
  · intro k
    obtain rfl | ⟨m1, m2⟩ := em2 a2 eT; rotate_left; · simp [EqS, m1, m2]
    obtain rfl | ⟨m1, m2⟩ := em2 a7 eT; rotate_left; · simp [EqS, m1, m2]
    obtain rfl | ⟨m1, m2⟩ := em2 a8 eT; rotate_left; · simp [EqS, m1, m2]
    obtain rfl | ⟨m1, m2⟩ := em2 a9 []; rotate_left; · simp [EqS, m1, m2, List.length_pos_iff.2 m1]
    obtain rfl | ⟨m1, m2⟩ := em2 a6 0; rotate_left; · simp [EqS, m1, m2]
    obtain rfl | ⟨m1, m2⟩ := em2 a5 []; rotate_left; · simp [EqS, m1, m2, List.length_pos_iff.2 m1]
    obtain rfl | ⟨m1, m2⟩ := em2 a4 eT; rotate_left; · simp [EqS, m1, m2]
    obtain rfl | ⟨m1, m2⟩ := em2 a3 0; rotate_left; · simp [EqS, m1, m2]
    simp [EqS]
theorem fits_show (a1 a2 : ByteArray) (a3 : Int) (a4 : ByteArray) (a5 : List ByteArray) (a6 : Int) (a7 a8 : ByteArray) (a9 : List ByteArray) (h5 : a5.length ≤ 100000) (h9 : a9.length ≤ 100000) : Fits 5 a1 a2 a3 a4 a5 a6 a7 a8 a9 (⟨(⟨#[115, 104, 111, 119]⟩ : ByteArray), 5, 0, 0, 1, false⟩ : S93) ([a1]) := by
  refine ⟨_, by kernel_rfl, by kernel_rfl, ?_, (shape_show a1).1, ?_, of_decide_eq_true (by kernel_rfl), by simp only [List.length_cons, List.length_nil]; omega, by simp⟩
  · kernel_rfl
  · intro k
    obtain rfl | ⟨m1, m2⟩ := em2 a2 eT; rotate_left; · simp [EqS, m1, m2]
    obtain rfl | ⟨m1, m2⟩ := em2 a7 eT; rotate_left; · simp [EqS, m1, m2]
    obtain rfl | ⟨m1, m2⟩ := em2 a8 eT; rotate_left; · simp [EqS, m1, m2]
    obtain rfl | ⟨m1, m2⟩ := em2 a9 []; rotate_left; · simp [EqS, m1, m2, List.length_pos_iff.2 m1]
    obtain rfl | ⟨m1, m2⟩ := em2 a6 0; rotate_left; · simp [EqS, m1, m2]
    obtain rfl | ⟨m1, m2⟩ := em2 a5 []; rotate_left; · simp [EqS, m1, m2, List.length_pos_iff.2 m1]
    obtain rfl | ⟨m1, m2⟩ := em2 a4 eT; rotate_left; · simp [EqS, m1, m2]
    obtain rfl | ⟨m1, m2⟩ := em2 a3 0; rotate_left; · simp [EqS, m1, m2]
    simp [EqS]
theorem fits_check (a1 a2 : ByteArray) (a3 : Int) (a4 : ByteArray) (a5 : List ByteArray) (a6 : Int) (a7 a8 : ByteArray) (a9 : List ByteArray) (h5 : a5.length ≤ 100000) (h9 : a9.length ≤ 100000) : Fits 6 a1 a2 a3 a4 a5 a6 a7 a8 a9 (⟨(⟨#[99, 104, 101, 99, 107]⟩ : ByteArray), 6, 0, 0, 1, false⟩ : S93) ([a1]) := by
  refine ⟨_, by kernel_rfl, by kernel_rfl, ?_, (shape_check a1).1, ?_, of_decide_eq_true (by kernel_rfl), by simp only [List.length_cons, List.length_nil]; omega, by simp⟩
  · kernel_rfl
  · intro k
    obtain rfl | ⟨m1, m2⟩ := em2 a2 eT; rotate_left; · simp [EqS, m1, m2]
    obtain rfl | ⟨m1, m2⟩ := em2 a7 eT; rotate_left; · simp [EqS, m1, m2]
    obtain rfl | ⟨m1, m2⟩ := em2 a8 eT; rotate_left; · simp [EqS, m1, m2]
    obtain rfl | ⟨m1, m2⟩ := em2 a9 []; rotate_left; · simp [EqS, m1, m2, List.length_pos_iff.2 m1]
    obtain rfl | ⟨m1, m2⟩ := em2 a6 0; rotate_left; · simp [EqS, m1, m2]
    obtain rfl | ⟨m1, m2⟩ := em2 a5 []; rotate_left; · simp [EqS, m1, m2, List.length_pos_iff.2 m1]
    obtain rfl | ⟨m1, m2⟩ := em2 a4 eT; rotate_left; · simp [EqS, m1, m2]
    obtain rfl | ⟨m1, m2⟩ := em2 a3 0; rotate_left; · simp [EqS, m1, m2]
    simp [EqS]
theorem fits_power (a1 a2 : ByteArray) (a3 : Int) (a4 : ByteArray) (a5 : List ByteArray) (a6 : Int) (a7 a8 : ByteArray) (a9 : List ByteArray) (h5 : a5.length ≤ 100000) (h9 : a9.length ≤ 100000) : Fits 7 a1 a2 a3 a4 a5 a6 a7 a8 a9 (⟨(⟨#[112, 111, 119, 101, 114]⟩ : ByteArray), 7, 0, 0, 0, false⟩ : S93) ([]) := by
  refine ⟨_, by kernel_rfl, by kernel_rfl, ?_, (shape_power ).1, ?_, of_decide_eq_true (by kernel_rfl), by simp only [List.length_cons, List.length_nil]; omega, by simp⟩
  · kernel_rfl
  · intro k
    obtain rfl | ⟨m1, m2⟩ := em2 a2 eT; rotate_left; · simp [EqS, m1, m2]
    obtain rfl | ⟨m1, m2⟩ := em2 a7 eT; rotate_left; · simp [EqS, m1, m2]
    obtain rfl | ⟨m1, m2⟩ := em2 a8 eT; rotate_left; · simp [EqS, m1, m2]
    obtain rfl | ⟨m1, m2⟩ := em2 a9 []; rotate_left; · simp [EqS, m1, m2, List.length_pos_iff.2 m1]
    obtain rfl | ⟨m1, m2⟩ := em2 a6 0; rotate_left; · simp [EqS, m1, m2]
    obtain rfl | ⟨m1, m2⟩ := em2 a5 []; rotate_left; · simp [EqS, m1, m2, List.length_pos_iff.2 m1]
    obtain rfl | ⟨m1, m2⟩ := em2 a4 eT; rotate_left; · simp [EqS, m1, m2]
    obtain rfl | ⟨m1, m2⟩ := em2 a3 0; rotate_left; · simp [EqS, m1, m2]
    obtain rfl | ⟨m1, m2⟩ := em2 a1 eT; rotate_left; · simp [EqS, m1, m2]
    simp [EqS]
theorem fits_mkdir (a1 a2 : ByteArray) (a4 : ByteArray) (a5 : List ByteArray) (a7 a8 : ByteArray) (a9 : List ByteArray) (h5 : a5.length ≤ 100000) (h9 : a9.length ≤ 100000) : Fits 1 a1 a2 0 a4 a5 0 a7 a8 a9 (⟨(⟨#[109, 107, 100, 105, 114]⟩ : ByteArray), 1, 0, 0, 2, false⟩ : S93) ([a1, a7]) := by
  refine ⟨_, by kernel_rfl, by kernel_rfl, ?_, (shape_mkdir a1 a7).1, ?_, of_decide_eq_true (by kernel_rfl), by simp only [List.length_cons, List.length_nil]; omega, by simp⟩
  · kernel_rfl
  · intro k
    obtain rfl | ⟨m1, m2⟩ := em2 a2 eT; rotate_left; · simp [EqS, m1, m2]
    obtain rfl | ⟨m1, m2⟩ := em2 a4 eT; rotate_left; · simp [EqS, m1, m2]
    obtain rfl | ⟨m1, m2⟩ := em2 a5 []; rotate_left; · simp [EqS, m1, m2, List.length_pos_iff.2 m1]
    obtain rfl | ⟨m1, m2⟩ := em2 a9 []; rotate_left; · simp [EqS, m1, m2, List.length_pos_iff.2 m1]
    obtain rfl | ⟨m1, m2⟩ := em2 a8 eT; rotate_left; · simp [EqS, m1, m2]
    simp [EqS]
theorem fits_write (a1 a2 : ByteArray) (a4 : ByteArray) (a5 : List ByteArray) (a7 a8 : ByteArray) (a9 : List ByteArray) (h5 : a5.length ≤ 100000) (h9 : a9.length ≤ 100000) : Fits 1 a1 a2 0 a4 a5 1 a7 a8 a9 (⟨(⟨#[119, 114, 105, 116, 101]⟩ : ByteArray), 1, 0, 1, 2, true⟩ : S93) (a1 :: a7 :: a9) := by
  refine ⟨_, by kernel_rfl, by kernel_rfl, ?_, (shape_write a1 a7 a9 h9).1, ?_, of_decide_eq_true (by kernel_rfl), by simp only [List.length_cons, List.length_nil]; omega, by simp⟩
  · refine (show _ = if ([a1, a7] : List ByteArray).length + a9.length < 8796093022208 then some ([a1, a7] ++ a9) else none by kernel_rfl).trans (if_pos (by simp only [List.length_cons, List.length_nil]; omega))
  · intro k
    have hq : a9.length + 3 < 8796093022208 := by omega
    have hq2 : 3 + a9.length < 8796093022208 := by omega
    obtain rfl | ⟨m1, m2⟩ := em2 a2 eT; rotate_left; · simp [EqS, m1, m2, hq, hq2]
    obtain rfl | ⟨m1, m2⟩ := em2 a4 eT; rotate_left; · simp [EqS, m1, m2, hq, hq2]
    obtain rfl | ⟨m1, m2⟩ := em2 a5 []; rotate_left; · simp [EqS, m1, m2, List.length_pos_iff.2 m1, hq, hq2]
    obtain rfl | ⟨m1, m2⟩ := em2 a8 eT; rotate_left; · simp [EqS, m1, m2, hq, hq2]
    simp [EqS, hq, hq2]
theorem fits_remove (a1 a2 : ByteArray) (a4 : ByteArray) (a5 : List ByteArray) (a7 a8 : ByteArray) (a9 : List ByteArray) (h5 : a5.length ≤ 100000) (h9 : a9.length ≤ 100000) : Fits 1 a1 a2 0 a4 a5 2 a7 a8 a9 (⟨(⟨#[114, 101, 109, 111, 118, 101]⟩ : ByteArray), 1, 0, 2, 2, false⟩ : S93) ([a1, a7]) := by
  refine ⟨_, by kernel_rfl, by kernel_rfl, ?_, (shape_remove a1 a7).1, ?_, of_decide_eq_true (by kernel_rfl), by simp only [List.length_cons, List.length_nil]; omega, by simp⟩
  · kernel_rfl
  · intro k
    obtain rfl | ⟨m1, m2⟩ := em2 a2 eT; rotate_left; · simp [EqS, m1, m2]
    obtain rfl | ⟨m1, m2⟩ := em2 a4 eT; rotate_left; · simp [EqS, m1, m2]
    obtain rfl | ⟨m1, m2⟩ := em2 a5 []; rotate_left; · simp [EqS, m1, m2, List.length_pos_iff.2 m1]
    obtain rfl | ⟨m1, m2⟩ := em2 a9 []; rotate_left; · simp [EqS, m1, m2, List.length_pos_iff.2 m1]
    obtain rfl | ⟨m1, m2⟩ := em2 a8 eT; rotate_left; · simp [EqS, m1, m2]
    simp [EqS]
theorem fits_move (a1 a2 : ByteArray) (a4 : ByteArray) (a5 : List ByteArray) (a7 a8 : ByteArray) (a9 : List ByteArray) (h5 : a5.length ≤ 100000) (h9 : a9.length ≤ 100000) : Fits 1 a1 a2 0 a4 a5 3 a7 a8 a9 (⟨(⟨#[109, 111, 118, 101]⟩ : ByteArray), 1, 0, 3, 3, false⟩ : S93) ([a1, a7, a8]) := by
  refine ⟨_, by kernel_rfl, by kernel_rfl, ?_, (shape_move a1 a7 a8).1, ?_, of_decide_eq_true (by kernel_rfl), by simp only [List.length_cons, List.length_nil]; omega, by simp⟩
  · kernel_rfl
  · intro k
    obtain rfl | ⟨m1, m2⟩ := em2 a2 eT; rotate_left; · simp [EqS, m1, m2]
    obtain rfl | ⟨m1, m2⟩ := em2 a4 eT; rotate_left; · simp [EqS, m1, m2]
    obtain rfl | ⟨m1, m2⟩ := em2 a5 []; rotate_left; · simp [EqS, m1, m2, List.length_pos_iff.2 m1]
    obtain rfl | ⟨m1, m2⟩ := em2 a9 []; rotate_left; · simp [EqS, m1, m2, List.length_pos_iff.2 m1]
    simp [EqS]
theorem fits_record (a1 a2 : ByteArray) (a4 : ByteArray) (a5 : List ByteArray) (a6 : Int) (a7 a8 : ByteArray) (a9 : List ByteArray) (h5 : a5.length ≤ 100000) (h9 : a9.length ≤ 100000) : Fits 1 a1 a2 1 a4 a5 a6 a7 a8 a9 (⟨(⟨#[114, 101, 99, 111, 114, 100]⟩ : ByteArray), 1, 1, 0, 2, false⟩ : S93) ([a1, a4]) := by
  refine ⟨_, by kernel_rfl, by kernel_rfl, ?_, (shape_record a1 a4).1, ?_, of_decide_eq_true (by kernel_rfl), by simp only [List.length_cons, List.length_nil]; omega, by simp⟩
  · kernel_rfl
  · intro k
    obtain rfl | ⟨m1, m2⟩ := em2 a2 eT; rotate_left; · simp [EqS, m1, m2]
    obtain rfl | ⟨m1, m2⟩ := em2 a7 eT; rotate_left; · simp [EqS, m1, m2]
    obtain rfl | ⟨m1, m2⟩ := em2 a8 eT; rotate_left; · simp [EqS, m1, m2]
    obtain rfl | ⟨m1, m2⟩ := em2 a9 []; rotate_left; · simp [EqS, m1, m2, List.length_pos_iff.2 m1]
    obtain rfl | ⟨m1, m2⟩ := em2 a6 0; rotate_left; · simp [EqS, m1, m2]
    obtain rfl | ⟨m1, m2⟩ := em2 a5 []; rotate_left; · simp [EqS, m1, m2, List.length_pos_iff.2 m1]
    simp [EqS]
theorem fits_unrecord (a1 a2 : ByteArray) (a4 : ByteArray) (a5 : List ByteArray) (a6 : Int) (a7 a8 : ByteArray) (a9 : List ByteArray) (h5 : a5.length ≤ 100000) (h9 : a9.length ≤ 100000) : Fits 1 a1 a2 2 a4 a5 a6 a7 a8 a9 (⟨(⟨#[117, 110, 114, 101, 99, 111, 114, 100]⟩ : ByteArray), 1, 2, 0, 2, false⟩ : S93) ([a1, a4]) := by
  refine ⟨_, by kernel_rfl, by kernel_rfl, ?_, (shape_unrecord a1 a4).1, ?_, of_decide_eq_true (by kernel_rfl), by simp only [List.length_cons, List.length_nil]; omega, by simp⟩
  · kernel_rfl
  · intro k
    obtain rfl | ⟨m1, m2⟩ := em2 a2 eT; rotate_left; · simp [EqS, m1, m2]
    obtain rfl | ⟨m1, m2⟩ := em2 a7 eT; rotate_left; · simp [EqS, m1, m2]
    obtain rfl | ⟨m1, m2⟩ := em2 a8 eT; rotate_left; · simp [EqS, m1, m2]
    obtain rfl | ⟨m1, m2⟩ := em2 a9 []; rotate_left; · simp [EqS, m1, m2, List.length_pos_iff.2 m1]
    obtain rfl | ⟨m1, m2⟩ := em2 a6 0; rotate_left; · simp [EqS, m1, m2]
    obtain rfl | ⟨m1, m2⟩ := em2 a5 []; rotate_left; · simp [EqS, m1, m2, List.length_pos_iff.2 m1]
    simp [EqS]
theorem fits_pull (a1 a2 : ByteArray) (a4 : ByteArray) (a5 : List ByteArray) (a6 : Int) (a7 a8 : ByteArray) (a9 : List ByteArray) (h5 : a5.length ≤ 100000) (h9 : a9.length ≤ 100000) : Fits 1 a1 a2 3 a4 a5 a6 a7 a8 a9 (⟨(⟨#[112, 117, 108, 108]⟩ : ByteArray), 1, 3, 0, 2, true⟩ : S93) (a1 :: a2 :: a5) := by
  refine ⟨_, by kernel_rfl, by kernel_rfl, ?_, (shape_pull a1 a2 a5 h5).1, ?_, of_decide_eq_true (by kernel_rfl), by simp only [List.length_cons, List.length_nil]; omega, by simp⟩
  · refine (show _ = if ([a1, a2] : List ByteArray).length + a5.length < 8796093022208 then some ([a1, a2] ++ a5) else none by kernel_rfl).trans (if_pos (by simp only [List.length_cons, List.length_nil]; omega))
  · intro k
    have hq : a5.length + 3 < 8796093022208 := by omega
    have hq2 : 3 + a5.length < 8796093022208 := by omega
    obtain rfl | ⟨m1, m2⟩ := em2 a4 eT; rotate_left; · simp [EqS, m1, m2, hq, hq2]
    obtain rfl | ⟨m1, m2⟩ := em2 a7 eT; rotate_left; · simp [EqS, m1, m2, hq, hq2]
    obtain rfl | ⟨m1, m2⟩ := em2 a8 eT; rotate_left; · simp [EqS, m1, m2, hq, hq2]
    obtain rfl | ⟨m1, m2⟩ := em2 a9 []; rotate_left; · simp [EqS, m1, m2, List.length_pos_iff.2 m1, hq, hq2]
    obtain rfl | ⟨m1, m2⟩ := em2 a6 0; rotate_left; · simp [EqS, m1, m2, hq, hq2]
    simp [EqS, hq, hq2]
theorem fits_unpull (a1 a2 : ByteArray) (a4 : ByteArray) (a5 : List ByteArray) (a6 : Int) (a7 a8 : ByteArray) (a9 : List ByteArray) (h5 : a5.length ≤ 100000) (h9 : a9.length ≤ 100000) : Fits 1 a1 a2 4 a4 a5 a6 a7 a8 a9 (⟨(⟨#[117, 110, 112, 117, 108, 108]⟩ : ByteArray), 1, 4, 0, 1, true⟩ : S93) (a1 :: a5) := by
  refine ⟨_, by kernel_rfl, by kernel_rfl, ?_, (shape_unpull a1 a5 h5).1, ?_, of_decide_eq_true (by kernel_rfl), by simp only [List.length_cons, List.length_nil]; omega, by simp⟩
  · refine (show _ = if ([a1] : List ByteArray).length + a5.length < 8796093022208 then some ([a1] ++ a5) else none by kernel_rfl).trans (if_pos (by simp only [List.length_cons, List.length_nil]; omega))
  · intro k
    have hq : a5.length + 2 < 8796093022208 := by omega
    have hq2 : 2 + a5.length < 8796093022208 := by omega
    obtain rfl | ⟨m1, m2⟩ := em2 a2 eT; rotate_left; · simp [EqS, m1, m2, hq, hq2]
    obtain rfl | ⟨m1, m2⟩ := em2 a7 eT; rotate_left; · simp [EqS, m1, m2, hq, hq2]
    obtain rfl | ⟨m1, m2⟩ := em2 a8 eT; rotate_left; · simp [EqS, m1, m2, hq, hq2]
    obtain rfl | ⟨m1, m2⟩ := em2 a9 []; rotate_left; · simp [EqS, m1, m2, List.length_pos_iff.2 m1, hq, hq2]
    obtain rfl | ⟨m1, m2⟩ := em2 a6 0; rotate_left; · simp [EqS, m1, m2, hq, hq2]
    obtain rfl | ⟨m1, m2⟩ := em2 a4 eT; rotate_left; · simp [EqS, m1, m2, hq, hq2]
    simp [EqS, hq, hq2]
theorem fits_revert (a1 a2 : ByteArray) (a4 : ByteArray) (a5 : List ByteArray) (a6 : Int) (a7 a8 : ByteArray) (a9 : List ByteArray) (h5 : a5.length ≤ 100000) (h9 : a9.length ≤ 100000) : Fits 1 a1 a2 5 a4 a5 a6 a7 a8 a9 (⟨(⟨#[114, 101, 118, 101, 114, 116]⟩ : ByteArray), 1, 5, 0, 1, false⟩ : S93) ([a1]) := by
  refine ⟨_, by kernel_rfl, by kernel_rfl, ?_, (shape_revert a1).1, ?_, of_decide_eq_true (by kernel_rfl), by simp only [List.length_cons, List.length_nil]; omega, by simp⟩
  · kernel_rfl
  · intro k
    obtain rfl | ⟨m1, m2⟩ := em2 a2 eT; rotate_left; · simp [EqS, m1, m2]
    obtain rfl | ⟨m1, m2⟩ := em2 a7 eT; rotate_left; · simp [EqS, m1, m2]
    obtain rfl | ⟨m1, m2⟩ := em2 a8 eT; rotate_left; · simp [EqS, m1, m2]
    obtain rfl | ⟨m1, m2⟩ := em2 a9 []; rotate_left; · simp [EqS, m1, m2, List.length_pos_iff.2 m1]
    obtain rfl | ⟨m1, m2⟩ := em2 a6 0; rotate_left; · simp [EqS, m1, m2]
    obtain rfl | ⟨m1, m2⟩ := em2 a5 []; rotate_left; · simp [EqS, m1, m2, List.length_pos_iff.2 m1]
    obtain rfl | ⟨m1, m2⟩ := em2 a4 eT; rotate_left; · simp [EqS, m1, m2]
    simp [EqS]
theorem fits_resolve (a1 a2 : ByteArray) (a4 : ByteArray) (a5 : List ByteArray) (a6 : Int) (a7 a8 : ByteArray) (a9 : List ByteArray) (h5 : a5.length ≤ 100000) (h9 : a9.length ≤ 100000) : Fits 1 a1 a2 6 a4 a5 a6 a7 a8 a9 (⟨(⟨#[114, 101, 115, 111, 108, 118, 101]⟩ : ByteArray), 1, 6, 0, 1, false⟩ : S93) ([a1]) := by
  refine ⟨_, by kernel_rfl, by kernel_rfl, ?_, (shape_resolve a1).1, ?_, of_decide_eq_true (by kernel_rfl), by simp only [List.length_cons, List.length_nil]; omega, by simp⟩
  · kernel_rfl
  · intro k
    obtain rfl | ⟨m1, m2⟩ := em2 a2 eT; rotate_left; · simp [EqS, m1, m2]
    obtain rfl | ⟨m1, m2⟩ := em2 a7 eT; rotate_left; · simp [EqS, m1, m2]
    obtain rfl | ⟨m1, m2⟩ := em2 a8 eT; rotate_left; · simp [EqS, m1, m2]
    obtain rfl | ⟨m1, m2⟩ := em2 a9 []; rotate_left; · simp [EqS, m1, m2, List.length_pos_iff.2 m1]
    obtain rfl | ⟨m1, m2⟩ := em2 a6 0; rotate_left; · simp [EqS, m1, m2]
    obtain rfl | ⟨m1, m2⟩ := em2 a5 []; rotate_left; · simp [EqS, m1, m2, List.length_pos_iff.2 m1]
    obtain rfl | ⟨m1, m2⟩ := em2 a4 eT; rotate_left; · simp [EqS, m1, m2]
    simp [EqS]
theorem line_other (a0 : Int) (a1 a2 : ByteArray) (a3 : Int) (a4 : ByteArray) (a5 : List ByteArray) (a6 : Int) (a7 a8 : ByteArray) (a9 : List ByteArray) (n0 : ¬ a0 = 0) (n1 : ¬ a0 = 1) (n2 : ¬ a0 = 2) (n3 : ¬ a0 = 3) (n4 : ¬ a0 = 4) (n5 : ¬ a0 = 5) (n6 : ¬ a0 = 6) (n7 : ¬ a0 = 7) :
    (findS (stepP a0 a3 a6) shapesL).2 = false ∧ ∀ k, rafterref35_Line.f (k + 20) a0 a1 a2 a3 a4 a5 a6 a7 a8 a9 = some [] := by
  have m0 : ¬ (0 : Int) = a0 := fun e => n0 e.symm
  have m1 : ¬ (1 : Int) = a0 := fun e => n1 e.symm
  have m2 : ¬ (2 : Int) = a0 := fun e => n2 e.symm
  have m3 : ¬ (3 : Int) = a0 := fun e => n3 e.symm
  have m4 : ¬ (4 : Int) = a0 := fun e => n4 e.symm
  have m5 : ¬ (5 : Int) = a0 := fun e => n5 e.symm
  have m6 : ¬ (6 : Int) = a0 := fun e => n6 e.symm
  have m7 : ¬ (7 : Int) = a0 := fun e => n7 e.symm
  refine ⟨by simp [findS, shapesL, cmd_shapes.f, stepP, m0, m1, m2, m3, m4, m5, m6, m7], fun k => ?_⟩
  have hr : a0 < 0 ∨ a0 > 7 := by omega
  by_cases c : a0 < 0
  · simp [n1, n7, c]
  · have c' : 7 < a0 := by omega
    simp [n1, n7, c, c']
theorem line_edit (a1 a2 : ByteArray) (a4 : ByteArray) (a5 : List ByteArray) (a6 : Int) (a7 a8 : ByteArray) (a9 : List ByteArray) (n0 : ¬ a6 = 0) (n1 : ¬ a6 = 1) (n2 : ¬ a6 = 2) (n3 : ¬ a6 = 3) :
    (findS (stepP 1 0 a6) shapesL).2 = false ∧ ∀ k, rafterref35_Line.f (k + 20) 1 a1 a2 0 a4 a5 a6 a7 a8 a9 = some [] := by
  have m0 : ¬ (0 : Int) = a6 := fun e => n0 e.symm
  have m1 : ¬ (1 : Int) = a6 := fun e => n1 e.symm
  have m2 : ¬ (2 : Int) = a6 := fun e => n2 e.symm
  have m3 : ¬ (3 : Int) = a6 := fun e => n3 e.symm
  exact ⟨by simp [findS, shapesL, cmd_shapes.f, stepP, m0, m1, m2, m3], fun k => by simp [n0, n1, n2, n3]⟩
theorem line_call (a1 a2 : ByteArray) (a3 : Int) (a4 : ByteArray) (a5 : List ByteArray) (a6 : Int) (a7 a8 : ByteArray) (a9 : List ByteArray) (n0 : ¬ a3 = 0) (n1 : ¬ a3 = 1) (n2 : ¬ a3 = 2) (n3 : ¬ a3 = 3) (n4 : ¬ a3 = 4) (n5 : ¬ a3 = 5) (n6 : ¬ a3 = 6) :
    (findS (stepP 1 a3 a6) shapesL).2 = false ∧ ∀ k, rafterref35_Line.f (k + 20) 1 a1 a2 a3 a4 a5 a6 a7 a8 a9 = some [] := by
  have m0 : ¬ (0 : Int) = a3 := fun e => n0 e.symm
  have m1 : ¬ (1 : Int) = a3 := fun e => n1 e.symm
  have m2 : ¬ (2 : Int) = a3 := fun e => n2 e.symm
  have m3 : ¬ (3 : Int) = a3 := fun e => n3 e.symm
  have m4 : ¬ (4 : Int) = a3 := fun e => n4 e.symm
  have m5 : ¬ (5 : Int) = a3 := fun e => n5 e.symm
  have m6 : ¬ (6 : Int) = a3 := fun e => n6 e.symm
  exact ⟨by simp [findS, shapesL, cmd_shapes.f, stepP, m0, m1, m2, m3, m4, m5, m6], fun k => by simp [n0, n1, n2, n3, n4, n5, n6]⟩
theorem step_fits (a0 : Int) (a1 a2 : ByteArray) (a3 : Int) (a4 : ByteArray) (a5 : List ByteArray) (a6 : Int) (a7 a8 : ByteArray) (a9 : List ByteArray) (h5 : a5.length ≤ 100000) (h9 : a9.length ≤ 100000) :
    (∃ s l, Fits a0 a1 a2 a3 a4 a5 a6 a7 a8 a9 s l) ∨ ((findS (stepP a0 a3 a6) shapesL).2 = false ∧ ∀ k, rafterref35_Line.f (k + 20) a0 a1 a2 a3 a4 a5 a6 a7 a8 a9 = some []) := by
  by_cases k0 : a0 = 0
  · subst k0; exact .inl ⟨_, _, fits_init a1 a2 a3 a4 a5 a6 a7 a8 a9 h5 h9⟩
  by_cases k2 : a0 = 2
  · subst k2; exact .inl ⟨_, _, fits_log a1 a2 a3 a4 a5 a6 a7 a8 a9 h5 h9⟩
  by_cases k3 : a0 = 3
  · subst k3; exact .inl ⟨_, _, fits_new a1 a2 a3 a4 a5 a6 a7 a8 a9 h5 h9⟩
  by_cases k4 : a0 = 4
  · subst k4; exact .inl ⟨_, _, fits_conflicts a1 a2 a3 a4 a5 a6 a7 a8 a9 h5 h9⟩
  by_cases k5 : a0 = 5
  · subst k5; exact .inl ⟨_, _, fits_show a1 a2 a3 a4 a5 a6 a7 a8 a9 h5 h9⟩
  by_cases k6 : a0 = 6
  · subst k6; exact .inl ⟨_, _, fits_check a1 a2 a3 a4 a5 a6 a7 a8 a9 h5 h9⟩
  by_cases k7 : a0 = 7
  · subst k7; exact .inl ⟨_, _, fits_power a1 a2 a3 a4 a5 a6 a7 a8 a9 h5 h9⟩
  by_cases k1 : a0 = 1
  case neg => exact .inr (line_other a0 a1 a2 a3 a4 a5 a6 a7 a8 a9 k0 k1 k2 k3 k4 k5 k6 k7)
  subst k1
  by_cases c0 : a3 = 0
  · subst c0
    by_cases e0 : a6 = 0
    · subst e0; exact .inl ⟨_, _, fits_mkdir a1 a2 a4 a5 a7 a8 a9 h5 h9⟩
    by_cases e1 : a6 = 1
    · subst e1; exact .inl ⟨_, _, fits_write a1 a2 a4 a5 a7 a8 a9 h5 h9⟩
    by_cases e2 : a6 = 2
    · subst e2; exact .inl ⟨_, _, fits_remove a1 a2 a4 a5 a7 a8 a9 h5 h9⟩
    by_cases e3 : a6 = 3
    · subst e3; exact .inl ⟨_, _, fits_move a1 a2 a4 a5 a7 a8 a9 h5 h9⟩
    exact .inr (line_edit a1 a2 a4 a5 a6 a7 a8 a9 e0 e1 e2 e3)
  by_cases c1 : a3 = 1
  · subst c1; exact .inl ⟨_, _, fits_record a1 a2 a4 a5 a6 a7 a8 a9 h5 h9⟩
  by_cases c2 : a3 = 2
  · subst c2; exact .inl ⟨_, _, fits_unrecord a1 a2 a4 a5 a6 a7 a8 a9 h5 h9⟩
  by_cases c3 : a3 = 3
  · subst c3; exact .inl ⟨_, _, fits_pull a1 a2 a4 a5 a6 a7 a8 a9 h5 h9⟩
  by_cases c4 : a3 = 4
  · subst c4; exact .inl ⟨_, _, fits_unpull a1 a2 a4 a5 a6 a7 a8 a9 h5 h9⟩
  by_cases c5 : a3 = 5
  · subst c5; exact .inl ⟨_, _, fits_revert a1 a2 a4 a5 a6 a7 a8 a9 h5 h9⟩
  by_cases c6 : a3 = 6
  · subst c6; exact .inl ⟨_, _, fits_resolve a1 a2 a4 a5 a6 a7 a8 a9 h5 h9⟩
  exact .inr (line_call a1 a2 a3 a4 a5 a6 a7 a8 a9 c0 c1 c2 c3 c4 c5 c6)
section
variable {a0 : Int} {a1 a2 : ByteArray} {a3 : Int} {a4 : ByteArray} {a5 : List ByteArray} {a6 : Int} {a7 a8 : ByteArray} {a9 : List ByteArray} {s : S93} {l : List ByteArray}
theorem shapeOf_fit (h : findS (stepP a0 a3 a6) shapesL = (s, true)) : cmd_shapeOf.f a0 a1 a2 a3 a4 a5 a6 a7 a8 a9 = some (s.f0, s.f1, s.f2, s.f3, s.f4, s.f5, true) := by
  simp only [cmd_shapeOf.f, h]
theorem check_fit (h5 : a5.length ≤ 100000) (h9 : a9.length ≤ 100000) (x : TStepT) (h : findS (stepP a0 a3 a6) shapesL = (s, true)) (ht : cmd_texts.f 20 a0 a1 a2 a3 a4 a5 a6 a7 a8 a9 s.f0 = some l) (hf : cmd_fill.f s.f0 s.f1 s.f2 s.f3 s.f4 s.f5 l = some x) :
    Ev (fun k => cmd_Check.f k a0 a1 a2 a3 a4 a5 a6 a7 a8 a9) (if EqS x (a0, a1, a2, a3, a4, a5, a6, a7, a8, a9) then 0 else 2) := by
  obtain ⟨x0, x1, x2, x3, x4, x5, x6, x7, x8, x9⟩ := x
  have hs := same_ev x0 a0 x1 a1 x2 a2 x3 a3 x4 a4 x5 a5 x6 a6 x7 a7 x8 a8 x9 a9 (by omega) (by omega)
  have htx : Ev (fun k => cmd_texts.f k a0 a1 a2 a3 a4 a5 a6 a7 a8 a9 s.f0) l := Ev.of (fun k => cmd_texts.mono _ _ _ _ _ _ _ _ _ _ _ k) (k := 20) ht
  unfold cmd_Check.f
  rw [shapeOf_fit h]
  refine Ev.bind_now (Ev.pos rfl (Ev.bind htx ?_))
  dsimp only
  rw [hf]
  refine Ev.bind_now (Ev.bind hs ?_)
  by_cases e : EqS (x0, x1, x2, x3, x4, x5, x6, x7, x8, x9) (a0, a1, a2, a3, a4, a5, a6, a7, a8, a9)
  · rw [if_pos e]
    exact Ev.pos (decide_eq_true e) (Ev.now _)
  · rw [if_neg e]
    exact Ev.neg (fun h => e (of_decide_eq_true h)) (Ev.now _)
theorem check_none (h : (findS (stepP a0 a3 a6) shapesL).2 = false) : Ev (fun k => cmd_Check.f k a0 a1 a2 a3 a4 a5 a6 a7 a8 a9) 2 := by
  unfold cmd_Check.f cmd_shapeOf.f
  refine Ev.bind_now (Ev.neg ?_ (Ev.now _))
  rw [h]; decide
theorem verb_fit (h : findS (stepP a0 a3 a6) shapesL = (s, true)) : cmd_Verb.f a0 a1 a2 a3 a4 a5 a6 a7 a8 a9 = some s.f0 := by
  unfold cmd_Verb.f
  rw [shapeOf_fit h]
  rfl
theorem join_32 (l : List ByteArray) (h : (joinL 32 (l.map ByteArray.toList)).length ≤ 1000000000) (h2 : l.length ≤ 1000000) : strings_Join.f l (⟨#[32]⟩ : ByteArray) = some (B (joinL 32 (l.map ByteArray.toList))) := by
  have e : joinT l (⟨#[32]⟩ : ByteArray) = joinL 32 (l.map ByteArray.toList) := by
    rw [joinT, show (⟨#[32]⟩ : ByteArray).toList = [32] from toList_B [32]]
    cases l.map ByteArray.toList with
    | nil => rfl
    | cons x r => rw [Go.Lib.join_cons, joinL_flat]; rfl
  unfold strings_Join.f
  rw [e, if_pos ⟨by omega, by omega⟩]
def lineL (v : ByteArray) (l : List ByteArray) : List UInt8 := joinL 32 (v.toList :: l.map fun t => wordL t.toList)
theorem words_loop (l : List ByteArray) (v : ByteArray) (hl : l.length ≤ 90000) (hx : ∀ t ∈ l, t.size ≤ 300000) (hj : (lineL v l).length ≤ 1048576) : ∀ (t : List ByteArray) (i : Nat), l.drop i = t →
    Ev (fun k => cmd_Text.l0 k (v :: (l.take i).map fun t => B (wordL t.toList)) l (l.length : Int) (i : Int)) (B (lineL v l), 0)
  | [], i, ht => by
    have hge := List.drop_eq_nil_iff.1 ht
    refine Ev.step (f := fun k => some (B (lineL v l), (0 : Int))) (fun k => ?_) (Ev.now _)
    have e : (v :: (l.take i).map fun t => B (wordL t.toList)).map ByteArray.toList = v.toList :: l.map fun t => wordL t.toList := by
      rw [List.take_of_length_le hge, List.map_cons, List.map_map]
      simp [Function.comp_def]
    simp only [cmd_Text.l0]
    rw [if_neg (by omega), join_32 _ (by rw [e]; exact Nat.le_trans hj (by omega)) (by rw [List.length_cons, List.length_map, List.length_take]; omega), e, Option.bind_some, if_neg (by have hj' : (joinL 32 (v.toList :: l.map fun t => wordL t.toList)).length ≤ 1048576 := hj; rw [size_B]; omega)]
    rfl
  | x :: t, i, ht => by
    have hlt := drop_cons_lt ht
    have hw : wrap64 ((i : Int) + 1) = ((i + 1 : Nat) : Int) := by rw [wrap64_in (by omega) (by omega)]; omega
    have hxm : x ∈ l := by
      have : x ∈ l.drop i := by rw [ht]; exact List.mem_cons_self
      exact List.mem_of_mem_drop this
    have ih := words_loop l v hl hx hj t (i + 1) (drop_cons_succ ht)
    have e : (v :: (l.take (i + 1)).map fun t => B (wordL t.toList)) = (v :: (l.take i).map fun t => B (wordL t.toList)) ++ [B (wordL x.toList)] := by
      have : l[i] = x := by
        rw [List.drop_eq_getElem_cons hlt] at ht
        exact (List.cons.inj ht).1
      rw [List.take_succ_eq_append_getElem hlt, List.map_append, this]
      rfl
    rw [e] at ih
    have hwd := word_ev x (by have := hx x hxm; omega)
    obtain ⟨N, hN0⟩ := hwd
    have hN : ∀ k, N ≤ k → cmd_Word.f k x = some (B (wordL x.toList)) := hN0
    obtain ⟨M, hM⟩ := ih
    refine ⟨max N M + 1, fun k hk => ?_⟩
    obtain ⟨j, rfl⟩ : ∃ j, k = j + 1 := ⟨k - 1, by omega⟩
    simp only [cmd_Text.l0]
    rw [if_pos (by omega), if_pos (by omega), if_pos (by omega), rdOf_cons ht, hN j (by omega), Option.bind_some, if_pos (by rw [List.length_cons, List.length_map, List.length_take]; omega), hw]
    exact hM j (by omega)
theorem text_fit (h5 : a5.length ≤ 100000) (h9 : a9.length ≤ 100000) (hl : l.length ≤ 90000) (hx : ∀ t ∈ l, t.size ≤ 300000) (hj : (lineL s.f0 l).length ≤ 1048576) (h : findS (stepP a0 a3 a6) shapesL = (s, true)) (ht : cmd_texts.f 20 a0 a1 a2 a3 a4 a5 a6 a7 a8 a9 s.f0 = some l) (hf : cmd_fill.f s.f0 s.f1 s.f2 s.f3 s.f4 s.f5 l = some (a0, a1, a2, a3, a4, a5, a6, a7, a8, a9)) :
    Ev (fun k => cmd_Text.f k a0 a1 a2 a3 a4 a5 a6 a7 a8 a9) (B (lineL s.f0 l), 0) := by
  have hc := check_fit h5 h9 _ h ht hf
  rw [if_pos ⟨rfl, rfl, rfl, rfl, rfl, rfl, rfl, rfl, rfl, rfl⟩] at hc
  have htx : Ev (fun k => cmd_texts.f k a0 a1 a2 a3 a4 a5 a6 a7 a8 a9 s.f0) l := Ev.of (fun k => cmd_texts.mono _ _ _ _ _ _ _ _ _ _ _ k) (k := 20) ht
  unfold cmd_Text.f
  refine Ev.bind hc (Ev.pos rfl ?_)
  rw [verb_fit h]
  exact Ev.bind_now (Ev.bind htx (words_loop l s.f0 hl hx hj l 0 rfl))
theorem text_no (hc : Ev (fun k => cmd_Check.f k a0 a1 a2 a3 a4 a5 a6 a7 a8 a9) 2) : Ev (fun k => cmd_Text.f k a0 a1 a2 a3 a4 a5 a6 a7 a8 a9) ((⟨#[]⟩ : ByteArray), 2) := by
  unfold cmd_Text.f
  exact Ev.bind hc (Ev.neg (by decide) (Ev.now _))
end
theorem unall_map : ∀ m : List (List UInt8), unall (m.map wordL) = some m
  | [] => rfl
  | x :: m => by rw [List.map_cons, unall, read_word, if_pos rfl, unall_map m]; rfl
theorem parse_line (s : S93) (l : List ByteArray) (x : TStepT) (hv : findS (verbP s.f0) shapesL = (s, true)) (hf : cmd_fill.f s.f0 s.f1 s.f2 s.f3 s.f4 s.f5 l = some x) (h32 : (32 : UInt8) ∉ s.f0.toList) (h1 : s.f4 ≤ (l.length : Int)) (h2 : ¬ (s.f4 < (l.length : Int) ∧ s.f5 = false))
    (hl : l.length ≤ 90000) (hx : ∀ t ∈ l, t.size ≤ 90000) (hj : (lineL s.f0 l).length ≤ 1048576) :
    Ev (fun k => cmd_Parse.f k (B (lineL s.f0 l))) (x.1, x.2.1, x.2.2.1, x.2.2.2.1, x.2.2.2.2.1, x.2.2.2.2.2.1, x.2.2.2.2.2.2.1, x.2.2.2.2.2.2.2.1, x.2.2.2.2.2.2.2.2.1, x.2.2.2.2.2.2.2.2.2, 0) := by
  have hsp := split_ev 32 (B (lineL s.f0 l)) (by rw [size_B]; omega)
  have e : splitL 32 (B (lineL s.f0 l)).toList = s.f0.toList :: l.map fun t => wordL t.toList := by
    rw [toList_B, lineL]
    refine splitL_joinL 32 _ (by simp) fun y hy => ?_
    rcases List.mem_cons.1 hy with e | hy
    · rw [e]; exact h32
    · obtain ⟨t, _, rfl⟩ := List.mem_map.1 hy
      exact word_free _
  rw [e, List.map_cons, B_toList] at hsp
  have em : (l.map fun t => wordL t.toList) = (l.map ByteArray.toList).map wordL := by rw [List.map_map]; rfl
  have hpr := parseRest_ev (l.map fun t => wordL t.toList) [] (fun w h => by
    obtain ⟨t, ht, rfl⟩ := List.mem_map.1 h
    have := word_length t.toList
    have := hx t ht
    rw [toList_length] at *
    omega) (by rw [List.length_map, List.length_nil]; omega)
  rw [em, unall_map] at hpr
  have eb : (l.map ByteArray.toList).map B = l := by rw [List.map_map]; simp [Function.comp_def]
  replace hpr : Ev (fun k => parseRest k (((l.map ByteArray.toList).map wordL).map B) []) (l, (0 : Int)) := by
    have h := hpr
    dsimp only at h
    rw [eb, List.nil_append] at h
    exact h
  unfold cmd_Parse.f
  refine Ev.neg (by rw [size_B]; omega) (Ev.bind hsp ?_)
  dsimp only
  unfold cmd_Parse.rest
  rw [em]
  refine Ev.bind hpr (Ev.pos rfl ?_)
  rw [hv]
  unfold cmd_Parse.fin
  refine Ev.neg (fun h => ?_) ?_
  · rcases h with h | h | h
    · cases h
    · dsimp only at h; omega
    · exact h2 h
  · dsimp only
    rw [hf]
    exact Ev.now _
end Go.Proofs.YtloibeefopdhpaaDoor.Plain
