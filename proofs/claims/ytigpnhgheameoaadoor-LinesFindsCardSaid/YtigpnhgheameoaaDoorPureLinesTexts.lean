/- LinesTexts in plain words. -/
import Derived.Test.YtigpnhgheameoaaDoorLinesPlain
import Derived.Test.YtigpnhgheameoaaDoorG13
set_option linter.unusedVariables false
namespace Go.Proofs.YtigpnhgheameoaaDoor.Plain
open Go.RowKit Go.Proofs.YtigpnhgheameoaaDoor.G Go.Proofs.YtigpnhgheameoaaDoorW.PrintWords Go.Proofs.YtigpnhgheameoaaDoorW.PrintLast Go.Proofs.YtigpnhgheameoaaDoorW.PrintMore

theorem decodeN_tail (n b0 b1 b2 b3 : Nat) (h : ¬ ((Lib.decodeN n b0 b1 b2 b3).1 = 65533 ∧ (Lib.decodeN n b0 b1 b2 b3).2 = 1)) :
    (b0 < 128 ∧ Lib.decodeN n b0 b1 b2 b3 = (b0, 1)) ∨ (128 ≤ b0 ∧ (Lib.decodeN n b0 b1 b2 b3).2 ≤ 4 ∧ (1 < (Lib.decodeN n b0 b1 b2 b3).2 → 128 ≤ b1) ∧ (2 < (Lib.decodeN n b0 b1 b2 b3).2 → 128 ≤ b2) ∧ (3 < (Lib.decodeN n b0 b1 b2 b3).2 → 128 ≤ b3)) := by
  revert h
  unfold Lib.decodeN
  repeat' split
  all_goals intro h
  all_goals first
    | (left; exact ⟨by omega, rfl⟩)
    | (exact absurd ⟨rfl, rfl⟩ h)
    | (right; refine ⟨by omega, by simp, ?_, ?_, ?_⟩ <;> (intro hh; simp at hh; try omega))
theorem ten_free : ∀ (n : Nat) (l : List UInt8), l.length ≤ n → rest l = true → (10 : UInt8) ∉ l
  | n, [], _, _ => by simp
  | 0, x :: t, h, _ => by simp at h
  | n + 1, x :: t, hn, h => by
    have hne : (x :: t) ≠ [] := by simp
    have hw := Lib.decodeL_width (x :: t)
    rw [rest_step _ hne] at h
    by_cases h1 : (Lib.decodeL (x :: t)).1 = 65533 ∧ (Lib.decodeL (x :: t)).2 = 1
    · rw [if_pos h1] at h; cases h
    rw [if_neg h1] at h
    by_cases h2 : (Lib.decodeL (x :: t)).1 < 32 ∧ (Lib.decodeL (x :: t)).1 ≠ 9
    · rw [if_pos h2] at h; cases h
    rw [if_neg h2] at h
    have ih := ten_free n ((x :: t).drop (Lib.decodeL (x :: t)).2) (by rw [List.length_drop]; omega) h
    intro hm
    rw [← List.take_append_drop (Lib.decodeL (x :: t)).2 (x :: t)] at hm
    rcases List.mem_append.1 hm with hm | hm
    · obtain ⟨j, hj⟩ := List.mem_iff_getElem?.1 hm
      rw [List.getElem?_take] at hj
      by_cases hjw : j < (Lib.decodeL (x :: t)).2
      · rw [if_pos hjw] at hj
        have hg : (x :: t).getD j 0 = 10 := by rw [List.getD_eq_getElem?_getD, hj]; rfl
        rw [Lib.decodeL_N] at h1 h2 hjw
        rcases decodeN_tail _ _ _ _ _ h1 with ⟨ha, hb⟩ | ⟨ha, hb, hc, hd, he⟩
        · rw [hb] at h2 hjw
          have : j = 0 := by simp at hjw; exact hjw
          subst this
          rw [hg] at h2
          exact h2 ⟨by decide, by decide⟩
        · have h10 : ((10 : UInt8)).toNat = 10 := rfl
          match j, hg, hjw with
          | 0, hg, _ => rw [hg, h10] at ha; omega
          | 1, hg, hjw => have := hc hjw; rw [hg, h10] at this; omega
          | 2, hg, hjw => have := hd hjw; rw [hg, h10] at this; omega
          | 3, hg, hjw => have := he hjw; rw [hg, h10] at this; omega
          | j + 4, hg, hjw => omega
      · rw [if_neg hjw] at hj; cases hj
    · exact ih hm
theorem line_free {l : List UInt8} (h : lineOk l = true) : (10 : UInt8) ∉ l := by
  refine ten_free l.length l (Nat.le_refl _) ?_
  unfold lineOk at h
  unfold rest
  rw [Bool.and_assoc] at h
  simp only [Bool.and_eq_true] at h ⊢
  exact h.2
theorem checkL_ok {l : List (List UInt8)} (h : checkL l = 0) : l.length ≤ 2000 ∧ ∀ x ∈ l, lineOk x = true := by
  unfold checkL at h
  by_cases h1 : l.length > 2000
  · rw [if_pos h1] at h; cases h
  · rw [if_neg h1] at h
    by_cases h2 : l.all lineOk = true
    · exact ⟨by omega, List.all_eq_true.1 h2⟩
    · rw [if_neg h2] at h; cases h
theorem split_text {l : List (List UInt8)} (h : checkL l = 0) : splitRes (textL l) = (l, 0) := by
  by_cases e : l = []
  · subst e
    rfl
  · have hok := checkL_ok h
    unfold splitRes
    rw [textL_joinL e, if_neg (by simp), if_pos (by simp), List.dropLast_concat, splitL_joinL 10 l e (fun x hx => line_free (hok.2 x hx)), if_pos h]
theorem get_list {l : List (List UInt8)} (h : checkL l = 0) : getRes (encL l) = (l, 0) := by
  have hok := checkL_ok h
  have := enc_dlist l [] (by omega) (fun x hx => by
    have := hok.2 x hx
    unfold lineOk at this
    simp only [Bool.and_eq_true, decide_eq_true_eq] at this
    omega)
  rw [List.append_nil] at this
  unfold getRes
  rw [this]
  simp [h]
theorem text_len : ∀ (l : List ByteArray) (c : Nat), (∀ s ∈ l, s.size ≤ c) → (textL (l.map ByteArray.toList)).length ≤ (c + 1) * l.length
  | [], c, h => by simp [textL]
  | s :: l, c, h => by
    have := text_len l c (fun y hy => h y (List.mem_cons_of_mem _ hy))
    have h2 := h s List.mem_cons_self
    rw [List.map_cons, textL_cons, List.length_append, List.length_cons, toList_length, List.length_cons, Nat.mul_add]
    omega
theorem map_B_toList (l : List ByteArray) : (l.map ByteArray.toList).map B = l := by
  rw [List.map_map]
  conv => rhs; rw [← List.map_id l]
  exact List.map_congr_left fun x _ => ext_toList (toList_B _)
end Go.Proofs.YtigpnhgheameoaaDoor.Plain
namespace Go.Proofs.YtigpnhgheameoaaDoor.Pure
open Go.RowKit Go.Proofs.YtigpnhgheameoaaDoor.G Go.Proofs.YtigpnhgheameoaaDoor.Plain Go.Proofs.YtigpnhgheameoaaDoorW.PrintWords Go.Proofs.YtigpnhgheameoaaDoorW.PrintLast Go.Proofs.YtigpnhgheameoaaDoorW.PrintMore

theorem LinesTexts (l : List ByteArray) (h0 : (∀ x ∈ l, x.size ≤ 140737488351232) ∧ l.length * 16 ≤ 140737488351232 ∧ l.length ≤ 9223372036854775807) : ∃ k, rafterlaw03_LinesTexts.f k l = some true := by
  suffices h : Ev (fun k => rafterlaw03_LinesTexts.f k l) true by
    obtain ⟨N, hN⟩ := h
    exact ⟨N, hN N (Nat.le_refl _)⟩
  unfold rafterlaw03_LinesTexts.f
  refine Ev.bind (light03 l (by omega)) ?_
  by_cases hL : (l.all (fun s => decide (s.size ≤ 300)) && decide (l.length ≤ 60)) = true
  · refine Ev.pos hL ?_
    simp only [Bool.and_eq_true, List.all_eq_true, decide_eq_true_eq] at hL
    have ht : total l ≤ 20000 := by have := total_le l 300 hL.1; have := Nat.mul_le_mul_left 310 hL.2; omega
    have htx : (textL (l.map ByteArray.toList)).length ≤ 20000 := by have := text_len l 300 hL.1; have := Nat.mul_le_mul_left 301 hL.2; omega
    have hb : ∀ x ∈ l, x.size ≤ 100000 := fun x hx => by have := hL.1 x hx; omega
    have hpre : Ev (fun k => rafterlaw03_LinesTexts.j0 k l (if checkL (l.map ByteArray.toList) = 0 then B (encL (l.map ByteArray.toList)) else B []) (checkL (l.map ByteArray.toList)) (checkL (l.map ByteArray.toList)) false) true := by
      refine Ev.step (fun k => by rw [rafterlaw03_LinesTexts.j0, if_neg (by decide)]) ?_
      by_cases c : checkL (l.map ByteArray.toList) = 0
      · refine Ev.pos c ?_
        rw [if_pos c, c, lines_Text.f, if_pos (by omega)]
        have hs := split3_ev (B (textL (l.map ByteArray.toList))) (by rw [size_B]; omega)
        rw [toList_B, split_text c, map_B_toList] at hs
        have hel : (encL (l.map ByteArray.toList)).length ≤ 20010 := by
          have h1 : ∀ l : List ByteArray, (∀ x ∈ l, x.size ≤ 100000) → ((l.map ByteArray.toList).map encT).flatten.length ≤ total l := by
            intro l hl
            induction l with
            | nil => simp [total]
            | cons x l ih =>
              have := ih (fun y hy => hl y (List.mem_cons_of_mem _ hy))
              have h2 := encT_len (x := x.toList) (by rw [toList_length]; have := hl x List.mem_cons_self; omega)
              rw [toList_length] at h2
              simp only [List.map_cons, List.flatten_cons, List.length_append, total]
              omega
          have h2 := h1 l hb
          have h3 := enc_len10 (n := (l.map ByteArray.toList).length) (by rw [List.length_map]; omega)
          unfold encL
          rw [List.length_append]
          omega
        have hg := get3_ev (B (encL (l.map ByteArray.toList))) (by rw [size_B]; omega)
        rw [toList_B, get_list c, map_B_toList] at hg
        have hsm := ref_same l l (by omega)
        rw [decide_eq_true rfl] at hsm
        refine Ev.bind_now (Ev.bind hs (Ev.bind hg (Ev.bind awake03 (Ev.pos rfl (Ev.pos rfl (Ev.bind (ref_list l (by omega) (by omega)) (Ev.pos rfl (Ev.pos rfl (Ev.bind hsm (Ev.pos rfl (Ev.pos rfl (Ev.bind hsm (Ev.now _)))))))))))))
      · refine Ev.neg c ?_
        rw [if_neg c]
        refine Ev.bind awake03 (Ev.pos rfl (Ev.pos (toList_B []) ?_))
        refine Ev.congr (fun k => ?_) (Ev.now true)
        simp
    rw [lines_Check.f, lines_Text.f, if_pos (by omega)]
    refine Ev.bind_now (Ev.bind (put3_ev l (by omega) (by omega)) (Ev.bind (ref3_check l (by omega) hb) (Ev.pos rfl (Ev.bind_now (Ev.bind (ref3_text l (by omega) (by omega)) ?_)))))
    simp only [bne_self_eq_false]
    exact hpre
  · exact Ev.neg hL (Ev.bind awake03 (Ev.now _))

end Go.Proofs.YtigpnhgheameoaaDoor.Pure
