/- Any number, text and list is laid as the reference lays it, and is read back, one byte being left: for every number, text and list. -/
import Derived.Test.YtigpnhgheameoaaG4
import Derived.Test.YtigpnhgheameoaaPureCodeLists
import Derived.Test.YtigpnhgheameoaaRow
set_option linter.unusedVariables false
namespace Go.Proofs.Ytigpnhgheameoaa.Pure
open Go.RowKit Go.Proofs.Ytigpnhgheameoaa.G Go.Proofs.Ytigpnhgheameoaa.Plain Go.Proofs.YtigpnhgheameoaaW.PrintWords Go.Proofs.YtigpnhgheameoaaW.PrintLast Go.Proofs.YtigpnhgheameoaaW.PrintMore

theorem light_loop (l : List ByteArray) (hl : l.length ≤ 9223372036854775806) : ∀ (t : List ByteArray) (i : Nat), l.drop i = t → Ev (fun k => rafterlaw01_light.l0 k l (i : Int)) (t.all (fun s => decide (s.size ≤ 300)) && decide (l.length ≤ 30))
  | [], i, ht => by
    have hge := List.drop_eq_nil_iff.1 ht
    refine Ev.step (f := fun k => some _) (fun k => ?_) (Ev.now _)
    simp only [rafterlaw01_light.l0]
    rw [if_neg (by omega)]
    simp
    omega
  | s :: t, i, ht => by
    have hlt := drop_cons_lt ht
    have hw : wrap64 ((i : Int) + 1) = ((i + 1 : Nat) : Int) := by rw [wrap64_in (by omega) (by omega)]; omega
    by_cases hs : s.size ≤ 300
    · refine Ev.step (f := fun k => rafterlaw01_light.l0 k l ((i + 1 : Nat) : Int)) (fun k => ?_) ?_
      · simp only [rafterlaw01_light.l0]
        rw [if_pos (by omega), if_pos (by omega), rdOf_cons ht, if_neg (by omega), hw]
      · have := light_loop l hl t (i + 1) (drop_cons_succ ht)
        simpa [hs] using this
    · refine Ev.step (f := fun k => some _) (fun k => ?_) (Ev.now _)
      simp only [rafterlaw01_light.l0]
      rw [if_pos (by omega), if_pos (by omega), rdOf_cons ht, if_pos (by omega)]
      simp [hs]
theorem light01 (l : List ByteArray) (hl : l.length ≤ 9223372036854775806) : Ev (fun k => rafterlaw01_light.f k l) (l.all (fun s => decide (s.size ≤ 300)) && decide (l.length ≤ 30)) :=
  Ev.congr (fun k => by rw [rafterlaw01_light.f]; rfl) (light_loop l hl l 0 (by simp))

theorem total_light : ∀ (l : List ByteArray), (∀ s ∈ l, s.size ≤ 300) → total l ≤ 310 * l.length
  | [], _ => by simp [total]
  | s :: l, h => by
    have := total_light l (fun x hx => h x (by simp [hx]))
    have := h s (by simp)
    simp only [total, List.length_cons]
    omega
theorem flat_len : ∀ (l : List ByteArray), ((l.map ByteArray.toList).map encT).flatten.length ≤ total l ∨ ∃ s ∈ l, 9223372036854770000 < s.size
  | [] => by simp [total]
  | s :: l => by
    by_cases hs : s.size ≤ 9223372036854770000
    · rcases flat_len l with h | ⟨x, hx, h⟩
      · refine .inl ?_
        have := encT_len (x := s.toList) (by rw [toList_length]; omega)
        rw [toList_length] at this
        simp only [List.map_cons, List.flatten_cons, List.length_append, total]
        omega
      · exact .inr ⟨x, by simp [hx], h⟩
    · exact .inr ⟨s, by simp, by omega⟩

theorem CodeLays (a0 : Int) (a1 : ByteArray) (l2 : List ByteArray) (h0 : (Lit.int .u64 a0).wf = true) (h1 : a1.size ≤ 140737488351232) (h2 : (∀ x ∈ l2, x.size ≤ 140737488351232) ∧ l2.length * 16 ≤ 140737488351232 ∧ l2.length ≤ 9223372036854775807) :
    ∃ k, rafterlaw01_CodeLays.f k a0 a1 l2 = some true := by
  refine Ev.rounds (r := true) ?_
  have hb : 0 ≤ a0 ∧ a0 < 18446744073709551616 := by
    have := h0
    simp [Lit.wf, IntKind.min, IntKind.max, IntKind.bits, IntKind.signed] at this
    omega
  obtain ⟨n, rfl⟩ := Int.eq_ofNat_of_zero_le hb.1
  have hn : n < 18446744073709551616 := by omega
  unfold rafterlaw01_CodeLays.f
  refine Ev.bind (light01 l2 (by omega)) ?_
  have other : Ev (fun k => rafterlaw01_CodeLays.j0 k (n : Int) a1 l2 true) true :=
    Ev.step (f := fun k => (rafterlaw01_awake.f k).bind fun t => some t) (fun k => by simp only [rafterlaw01_CodeLays.j0]; rw [if_pos trivial]) (Ev.bind awake01 (Ev.now _))
  by_cases hl : (l2.all (fun s => decide (s.size ≤ 300)) && decide (l2.length ≤ 30)) = true
  · refine Ev.pos hl ?_
    simp only [Bool.and_eq_true, List.all_eq_true, decide_eq_true_eq] at hl
    obtain ⟨hl1, hl2⟩ := hl
    by_cases h300 : a1.size > 300
    · rw [decide_eq_true (by omega)]
      exact other
    rw [decide_eq_false (by omega)]
    have ht := total_light l2 hl1
    have hfl : ((l2.map ByteArray.toList).map encT).flatten.length ≤ total l2 := by
      rcases flat_len l2 with h | ⟨s, hs, h⟩
      · exact h
      · have := hl1 s hs
        omega
    have hs1 : (enc n).length ≤ 10 := enc_len10 hn
    have hs2 : (encT a1.toList).length ≤ 310 := by
      have := encT_len (x := a1.toList) (by rw [toList_length]; omega)
      rw [toList_length] at this
      omega
    have hs3 : (encL (l2.map ByteArray.toList)).length ≤ 9400 := by
      rw [encL, List.length_append, List.length_map]
      have := enc_len10 (n := l2.length) (by omega)
      omega
    have e0 : ((B (enc n) ++ B (encT a1.toList)) ++ B (encL (l2.map ByteArray.toList))) ++ (⟨#[33]⟩ : ByteArray) = B (enc n ++ (encT a1.toList ++ (encL (l2.map ByteArray.toList) ++ [33]))) := by
      rw [show (⟨#[33]⟩ : ByteArray) = B [33] from rfl, B_append, B_append, B_append]
      simp
    have r1 := rdNum (B (enc n ++ (encT a1.toList ++ (encL (l2.map ByteArray.toList) ++ [33])))) (by simp; omega)
    rw [toList_B, enc_dnum n 0 0 _ (by omega) (by omega) (by omega)] at r1
    replace r1 : Ev (fun k => code_Reader_Num.f k (B (enc n ++ (encT a1.toList ++ (encL (l2.map ByteArray.toList) ++ [33])))) 0) ((n : Int), B (encT a1.toList ++ (encL (l2.map ByteArray.toList) ++ [33])), 0) := by simpa [numRes] using r1
    have r2 := rdText (B (encT a1.toList ++ (encL (l2.map ByteArray.toList) ++ [33]))) (by simp; omega)
    rw [toList_B, encT, enc_dtext _ _ (by rw [toList_length]; omega)] at r2
    replace r2 : Ev (fun k => code_Reader_Text.f k (B (encT a1.toList ++ (encL (l2.map ByteArray.toList) ++ [33]))) 0) (a1, B (encL (l2.map ByteArray.toList) ++ [33]), 0) := by simpa [textRes, encT] using r2
    have r3 := rdList (B (encL (l2.map ByteArray.toList) ++ [33])) (by simp; omega)
    rw [toList_B, enc_dlist _ _ (by rw [List.length_map]; omega) (by
      intro x hx
      obtain ⟨s, hs, rfl⟩ := List.mem_map.1 hx
      have := hl1 s hs
      rw [toList_length]
      omega)] at r3
    have e3 : (l2.map ByteArray.toList).map B = l2 := by rw [List.map_map]; simp [Function.comp_def]
    replace r3 : Ev (fun k => code_Reader_List.f k (B (encL (l2.map ByteArray.toList) ++ [33])) 0) (l2, B [33], 0) := by
      have := r3
      simp only [listRes, e3] at this
      exact this
    refine Ev.step (f := fun k => (code_Num.f k (n : Int)).bind fun t186 => _) (fun k => by simp only [rafterlaw01_CodeLays.j0]; rw [if_neg (by decide)]) ?_
    refine Ev.bind (code_num n hn) (Ev.bind (code_text a1 (by omega)) (Ev.bind (code_list l2 (by omega) (by omega)) ?_))
    refine Ev.pos (by simp; omega) (Ev.pos (by simp; omega) (Ev.pos (by simp; omega) ?_))
    rw [e0]
    refine Ev.congr (f := fun k => (code_Reader_Num.f k (B (enc n ++ (encT a1.toList ++ (encL (l2.map ByteArray.toList) ++ [33])))) 0).bind fun bt192 => _) (fun k => by rw [code_Read.f]; rfl) ?_
    refine Ev.bind r1 (Ev.bind r2 (Ev.bind r3 (Ev.bind awake01 ?_)))
    refine Ev.pos (by first | rfl | trivial) (Ev.bind (ref_num' n hn) (Ev.pos (by first | rfl | trivial) (Ev.bind (ref_text a1 (by omega)) (Ev.pos (by first | rfl | trivial) (Ev.bind (ref_list l2 (by omega) (by omega)) (Ev.pos (by first | rfl | trivial) (Ev.pos (by first | rfl | trivial) (Ev.pos (by first | rfl | trivial) ?_))))))))
    have hsame := ref_same l2 l2 (by omega)
    rw [decide_eq_true rfl] at hsame
    refine Ev.bind hsame (Ev.pos (by first | rfl | trivial) (Ev.congr (fun k => ?_) (Ev.now _)))
    simp [code_Reader_Left.f, code_Reader_Err.f]
  · exact Ev.neg hl other

end Go.Proofs.Ytigpnhgheameoaa.Pure
