-- Words of the kit's print (as it laid them for this seat); what this claim does not use is left out.
import Derived.Test.YtloibeefopdhpaaDoorCmdLine
set_option linter.unusedVariables false
set_option linter.unusedSimpArgs false
namespace Go.Proofs.YtloibeefopdhpaaDoor.Plain
open Go.RowKit Go.Proofs.YtloibeefopdhpaaDoor.G Go.Proofs.YtloibeefopdhpaaDoorW.PrintWords Go.Proofs.YtloibeefopdhpaaDoorW.PrintLast Go.Proofs.YtloibeefopdhpaaDoorW.PrintMore
theorem light_loop (l : List ByteArray) (hl : l.length ≤ 9223372036854775806) : ∀ (t : List ByteArray) (i : Nat), l.drop i = t → Ev (fun k => rafterlaw03_Light.l0 k l (i : Int)) (t.all (fun s => decide (s.size ≤ 300)) && decide (l.length ≤ 60))
  | [], i, ht => by
    have hge := List.drop_eq_nil_iff.1 ht
    refine Ev.step (f := fun k => some _) (fun k => ?_) (Ev.now _)
    simp only [rafterlaw03_Light.l0]
    rw [if_neg (by omega)]
    congr 1
    rw [List.all_nil, Bool.true_and, Bool.eq_iff_iff]
    simp only [decide_eq_true_eq]
    omega
  | x :: t, i, ht => by
    have hlt := drop_cons_lt ht
    have hw : wrap64 ((i : Int) + 1) = ((i + 1 : Nat) : Int) := by rw [wrap64_in (by omega) (by omega)]; omega
    rw [List.all_cons]
    by_cases h : x.size ≤ 300
    · rw [decide_eq_true h, Bool.true_and]
      refine Ev.step (fun k => ?_) (light_loop l hl t (i + 1) (drop_cons_succ ht))
      simp only [rafterlaw03_Light.l0]
      rw [if_pos (by omega), if_pos (by omega), rdOf_cons ht, if_neg (by omega), hw]
    · rw [decide_eq_false h, Bool.false_and, Bool.false_and]
      refine Ev.step (f := fun k => some false) (fun k => ?_) (Ev.now _)
      simp only [rafterlaw03_Light.l0]
      rw [if_pos (by omega), if_pos (by omega), rdOf_cons ht, if_pos (by omega)]
def LightE (p q : ByteArray) (l : List ByteArray) : Prop := p.size ≤ 300 ∧ q.size ≤ 300 ∧ (∀ s ∈ l, s.size ≤ 300) ∧ l.length ≤ 60
theorem few_ev (e : S30) (hl : e.f3.length ≤ 9223372036854775806) : ∃ b, Ev (fun k => rafterlaw22_Few.f k [e]) b ∧ (b = true → LightE e.f1 e.f2 e.f3) := by
  have h0 : rd_T30 [e] 0 = e := rfl
  have w0 : wrap64 ((0 : Int) + 1) = 1 := by rw [wrap64_in (by decide) (by decide)]; rfl
  by_cases h1 : e.f1.size ≤ 300
  case neg =>
    refine ⟨false, Ev.step (f := fun k => some false) (fun k => ?_) (Ev.now _), fun h => by cases h⟩
    simp only [rafterlaw22_Few.f, rafterlaw22_Few.l0, h0]
    rw [if_pos (by simp), if_pos (by decide), if_pos (by omega)]
  by_cases h2 : e.f2.size ≤ 300
  case neg =>
    refine ⟨false, Ev.step (f := fun k => some false) (fun k => ?_) (Ev.now _), fun h => by cases h⟩
    simp only [rafterlaw22_Few.f, rafterlaw22_Few.l0, h0]
    rw [if_pos (by simp), if_pos (by decide), if_neg (by omega), if_pos (by omega)]
  have h3 : Ev (fun k => rafterlaw03_Light.f k e.f3) (e.f3.all (fun s => decide (s.size ≤ 300)) && decide (e.f3.length ≤ 60)) := light_loop e.f3 hl _ 0 rfl
  have hend : Ev (fun k => rafterlaw22_Few.l0 k [e] 1) true := Ev.step (f := fun k => some true) (fun k => by simp only [rafterlaw22_Few.l0]; rw [if_neg (by simp)]; rfl) (Ev.now _)
  refine ⟨e.f3.all (fun s => decide (s.size ≤ 300)) && decide (e.f3.length ≤ 60), Ev.step (f := fun k => (rafterlaw03_Light.f k e.f3).bind fun t => if t = true then rafterlaw22_Few.l0 k [e] 1 else some false) (fun k => ?_) ?_, fun h => ?_⟩
  · simp only [rafterlaw22_Few.f, rafterlaw22_Few.l0, h0]
    rw [if_pos (by simp), if_pos (by decide), if_neg (by omega), if_neg (by omega), w0]
  · refine Ev.bind h3 ?_
    cases hb : e.f3.all (fun s => decide (s.size ≤ 300)) && decide (e.f3.length ≤ 60) with
    | true => exact Ev.pos rfl hend
    | false => exact Ev.neg (by decide) (Ev.now _)
  · rw [Bool.and_eq_true, List.all_eq_true] at h
    exact ⟨h1, h2, fun s hs => of_decide_eq_true (h.1 s hs), of_decide_eq_true h.2⟩
theorem names_ev (a0 : Int) (a1 : ByteArray) (l : List ByteArray) (e0 : Int) (e1 e2 : ByteArray) (e3 : List ByteArray) (hl : l.length ≤ 9223372036854775806) (he : e3.length ≤ 9223372036854775806) : ∀ (t : List ByteArray) (i : Nat), l.drop i = t →
    ∃ b, Ev (fun k => rafterlaw34_Light.l0 k (i : Int) a0 a1 l e0 e1 e2 e3) b ∧ (b = true → (∀ s ∈ t, s.size ≤ 100) ∧ LightE e1 e2 e3)
  | [], i, ht => by
    have hge := List.drop_eq_nil_iff.1 ht
    obtain ⟨b, hb, hp⟩ := few_ev ⟨e0, e1, e2, e3⟩ he
    refine ⟨b, Ev.step (f := fun k => (rafterlaw22_Few.f k [⟨e0, e1, e2, e3⟩]).bind fun t => some t) (fun k => ?_) (Ev.bind hb (Ev.now _)), fun h => ⟨fun s hs => (by cases hs), hp h⟩⟩
    simp only [rafterlaw34_Light.l0]
    rw [if_neg (by omega)]
  | x :: t, i, ht => by
    have hlt := drop_cons_lt ht
    have hw : wrap64 ((i : Int) + 1) = ((i + 1 : Nat) : Int) := by rw [wrap64_in (by omega) (by omega)]; omega
    by_cases h : x.size ≤ 100
    · obtain ⟨b, hb, hp⟩ := names_ev a0 a1 l e0 e1 e2 e3 hl he t (i + 1) (drop_cons_succ ht)
      refine ⟨b, Ev.step (fun k => ?_) hb, fun h' => ⟨fun s hs => ?_, (hp h').2⟩⟩
      · simp only [rafterlaw34_Light.l0]
        rw [if_pos (by omega), if_pos (by omega), rdOf_cons ht, if_neg (by omega), hw]
      · rcases List.mem_cons.1 hs with e | hs
        · rw [e]; exact h
        · exact (hp h').1 s hs
    · refine ⟨false, Ev.step (f := fun k => some false) (fun k => ?_) (Ev.now _), fun h' => by cases h'⟩
      simp only [rafterlaw34_Light.l0]
      rw [if_pos (by omega), if_pos (by omega), rdOf_cons ht, if_pos (by omega)]
def LightX (x : S34) : Prop := x.f1.size ≤ 100 ∧ x.f2.size ≤ 100 ∧ x.f3.f1.size ≤ 100 ∧ x.f3.f2.length ≤ 20 ∧ (∀ s ∈ x.f3.f2, s.size ≤ 100) ∧ LightE x.f3.f3.f1 x.f3.f3.f2 x.f3.f3.f3
theorem call_ev (a0 : Int) (a1 : ByteArray) (l : List ByteArray) (e0 : Int) (e1 e2 : ByteArray) (e3 : List ByteArray) (hl : l.length ≤ 9223372036854775806) (he : e3.length ≤ 9223372036854775806) :
    ∃ b, Ev (fun k => rafterlaw34_Light.f k a0 a1 l e0 e1 e2 e3) b ∧ (b = true → a1.size ≤ 100 ∧ l.length ≤ 20 ∧ (∀ s ∈ l, s.size ≤ 100) ∧ LightE e1 e2 e3) := by
  have hno : Ev (fun k => rafterlaw34_Light.j0 k true a0 a1 l e0 e1 e2 e3) false := Ev.step (f := fun k => some false) (fun k => by simp [rafterlaw34_Light.j0]) (Ev.now _)
  unfold rafterlaw34_Light.f
  by_cases h1 : a1.size ≤ 100
  case neg => exact ⟨false, Ev.pos (by omega) hno, fun h => by cases h⟩
  by_cases h2 : l.length ≤ 20
  case neg => exact ⟨false, Ev.neg (by omega) (by rw [decide_eq_true (show (l.length : Int) > 20 by omega)]; exact hno), fun h => by cases h⟩
  obtain ⟨b, hb, hp⟩ := names_ev a0 a1 l e0 e1 e2 e3 hl he l 0 rfl
  refine ⟨b, Ev.neg (by omega) ?_, fun h => ⟨h1, h2, hp h⟩⟩
  rw [decide_eq_false (show ¬ (l.length : Int) > 20 by omega)]
  refine Ev.step (fun k => ?_) hb
  simp [rafterlaw34_Light.j0]
theorem step_ev (x : S34) (l : List S34) (i : Nat) (hi : (i : Int) < (l.length : Int)) (hi2 : i < 9223372036854775806) (hx : rd_T34 l (i : Int) = x) (h5 : x.f3.f2.length ≤ 9223372036854775806) (h9 : x.f3.f3.f3.length ≤ 9223372036854775806) (Q : Prop)
    (hn : ∃ b, Ev (fun k => rafterlaw35_Light.l0 k l ((i + 1 : Nat) : Int)) b ∧ (b = true → Q)) : ∃ b, Ev (fun k => rafterlaw35_Light.l0 k l (i : Int)) b ∧ (b = true → LightX x ∧ Q) := by
  have hw : wrap64 ((i : Int) + 1) = ((i + 1 : Nat) : Int) := by rw [wrap64_in (by omega) (by omega)]; omega
  by_cases h1 : x.f1.size ≤ 100
  case neg =>
    refine ⟨false, Ev.step (f := fun k => some false) (fun k => ?_) (Ev.now _), fun h => by cases h⟩
    simp only [rafterlaw35_Light.l0, hx]
    rw [if_pos hi, if_pos (by omega), if_pos (by omega)]
  by_cases h2 : x.f2.size ≤ 100
  case neg =>
    refine ⟨false, Ev.step (f := fun k => some false) (fun k => ?_) (Ev.now _), fun h => by cases h⟩
    simp only [rafterlaw35_Light.l0, hx]
    rw [if_pos hi, if_pos (by omega), if_neg (by omega), if_pos (by omega)]
  obtain ⟨c, hc, hp⟩ := call_ev x.f3.f0 x.f3.f1 x.f3.f2 x.f3.f3.f0 x.f3.f3.f1 x.f3.f3.f2 x.f3.f3.f3 h5 h9
  obtain ⟨b, hb, hq⟩ := hn
  cases c with
  | false =>
    refine ⟨false, Ev.step (f := fun k => (rafterlaw34_Light.f k x.f3.f0 x.f3.f1 x.f3.f2 x.f3.f3.f0 x.f3.f3.f1 x.f3.f3.f2 x.f3.f3.f3).bind fun t => if t = true then rafterlaw35_Light.l0 k l ((i + 1 : Nat) : Int) else some false) (fun k => ?_) (Ev.bind hc (Ev.neg (by decide) (Ev.now _))), fun h => by cases h⟩
    simp only [rafterlaw35_Light.l0, hx]
    rw [if_pos hi, if_pos (by omega), if_neg (by omega), if_neg (by omega), hw]
  | true =>
    refine ⟨b, Ev.step (f := fun k => (rafterlaw34_Light.f k x.f3.f0 x.f3.f1 x.f3.f2 x.f3.f3.f0 x.f3.f3.f1 x.f3.f3.f2 x.f3.f3.f3).bind fun t => if t = true then rafterlaw35_Light.l0 k l ((i + 1 : Nat) : Int) else some false) (fun k => ?_) (Ev.bind hc (Ev.pos rfl hb)), fun h => ⟨⟨h1, h2, hp rfl⟩, hq h⟩⟩
    simp only [rafterlaw35_Light.l0, hx]
    rw [if_pos hi, if_pos (by omega), if_neg (by omega), if_neg (by omega), hw]
theorem joinL_bound (n : Nat) : ∀ (l : List (List UInt8)), (∀ w ∈ l, w.length ≤ n) → (joinL 32 l).length ≤ l.length * (n + 1)
  | [], _ => by simp [joinL]
  | [x], h => by
    have := h x (by simp)
    simp only [joinL, List.length_cons, List.length_nil]
    omega
  | x :: y :: l, h => by
    have h1 := h x (by simp)
    have h2 := joinL_bound n (y :: l) (fun w hw => h w (by simp [List.mem_cons.1 hw]))
    rw [joinL_cons 32 x (by simp), List.length_append, List.length_cons]
    simp only [List.length_cons] at *
    have : (l.length + 1 + 1) * (n + 1) = (l.length + 1) * (n + 1) + (n + 1) := by rw [Nat.add_mul (l.length + 1) 1, Nat.one_mul]
    omega
theorem line_bound (v : ByteArray) (l : List ByteArray) (hv : v.size ≤ 20) (hl : l.length ≤ 100) (hx : ∀ t ∈ l, t.size ≤ 300) : (lineL v l).length ≤ 1048576 := by
  have := joinL_bound 1000 (v.toList :: l.map fun t => wordL t.toList) (fun w hw => by
    rcases List.mem_cons.1 hw with e | hw
    · rw [e, toList_length]; omega
    · obtain ⟨t, ht, rfl⟩ := List.mem_map.1 hw
      have h1 := word_length t.toList
      have h2 := hx t ht
      rw [toList_length] at h1
      omega)
  rw [List.length_cons, List.length_map] at this
  have h2 : (l.length + 1) * 1001 ≤ 101 * 1001 := Nat.mul_le_mul_right _ (by omega)
  exact Nat.le_trans this (Nat.le_trans h2 (by decide))
theorem ite_out {α : Type} {c : Prop} [Decidable c] {A B : Option α} {l : α} {P : Prop} (h : (if c then A else B) = some l) (ha : A = some l → P) (hb : B = some l → P) : P := by
  by_cases hc : c
  · rw [if_pos hc] at h; exact ha h
  · rw [if_neg hc] at h; exact hb h
theorem texts_bound {a0 : Int} {a1 a2 : ByteArray} {a3 : Int} {a4 : ByteArray} {a5 : List ByteArray} {a6 : Int} {a7 a8 : ByteArray} {a9 : List ByteArray} {v : ByteArray} {l : List ByteArray} (h : cmd_texts.f 20 a0 a1 a2 a3 a4 a5 a6 a7 a8 a9 v = some l)
    (h1 : a1.size ≤ 300) (h2 : a2.size ≤ 300) (h4 : a4.size ≤ 300) (h5 : ∀ s ∈ a5, s.size ≤ 300) (h7 : a7.size ≤ 300) (h8 : a8.size ≤ 300) (h9 : ∀ s ∈ a9, s.size ≤ 300) (l5 : a5.length ≤ 90) (l9 : a9.length ≤ 90) : l.length ≤ 100 ∧ ∀ t ∈ l, t.size ≤ 300 := by
  have one : ∀ l' : List ByteArray, some l' = some l → (l'.length ≤ 100 ∧ ∀ t ∈ l', t.size ≤ 300) → l.length ≤ 100 ∧ ∀ t ∈ l, t.size ≤ 300 := fun l' e p => by injection e with e; rw [← e]; exact p
  have app : ∀ (p q : List ByteArray), some (p ++ q) = some l → p.length ≤ 3 → (∀ t ∈ p, t.size ≤ 300) → q.length ≤ 90 → (∀ t ∈ q, t.size ≤ 300) → l.length ≤ 100 ∧ ∀ t ∈ l, t.size ≤ 300 := fun p q e a b c d =>
    one _ e ⟨by rw [List.length_append]; omega, fun t ht => (List.mem_append.1 ht).elim (b t) (d t)⟩
  unfold cmd_texts.f at h
  repeat' refine ite_out h (fun h => ?_) (fun h => ?_)
  all_goals first
    | exact app [a1, a7] a9 h (by simp) (by simp [*]) l9 h9
    | exact app [a1, a2] a5 h (by simp) (by simp [*]) l5 h5
    | exact app [a1] a5 h (by simp) (by simp [*]) l5 h5
    | exact one _ h ⟨by simp, by simp [*]⟩
    | cases h
end Go.Proofs.YtloibeefopdhpaaDoor.Plain
