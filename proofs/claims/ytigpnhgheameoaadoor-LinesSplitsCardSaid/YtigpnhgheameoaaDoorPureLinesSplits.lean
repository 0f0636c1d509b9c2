/- LinesSplits in plain words. -/
import Derived.Test.YtigpnhgheameoaaDoorPureLinesTexts
import Derived.Test.YtigpnhgheameoaaDoorG14
set_option linter.unusedVariables false
namespace Go.Proofs.YtigpnhgheameoaaDoor.Plain
open Go.RowKit Go.Proofs.YtigpnhgheameoaaDoor.G Go.Proofs.YtigpnhgheameoaaDoorW.PrintWords Go.Proofs.YtigpnhgheameoaaDoorW.PrintLast Go.Proofs.YtigpnhgheameoaaDoorW.PrintMore

/-- The reference's lines: those that a line end closes; what stands behind the last. -/
def closed : List UInt8 → List UInt8 → List (List UInt8) → List (List UInt8) × List UInt8
  | [], cur, out => (out, cur)
  | b :: l, cur, out => if b = 10 then closed l [] (out ++ [cur]) else closed l (cur ++ [b]) out
theorem closed_eq : ∀ (l cur : List UInt8) (out : List (List UInt8)), (10 : UInt8) ∉ cur → closed l cur out = (out ++ (splitL 10 (cur ++ l)).dropLast, (splitL 10 (cur ++ l)).getLastD [])
  | [], cur, out, h => by
    rw [closed, List.append_nil, splitL_miss h]
    simp
  | b :: l, cur, out, h => by
    rw [closed]
    by_cases e : b = 10
    · subst e
      rw [if_pos rfl, splitL_hit h, closed_eq l [] (out ++ [cur]) (by simp), List.nil_append]
      have hne := splitL_ne 10 l
      cases hs : splitL 10 l with
      | nil => exact absurd hs hne
      | cons x r => simp
    · rw [if_neg e, closed_eq l (cur ++ [b]) out (by
        intro h2
        rcases List.mem_append.1 h2 with h2 | h2
        · exact h h2
        · simp at h2; exact e h2.symm)]
      simp
theorem refSplit_loop (s : ByteArray) (hs : s.size ≤ 100000) : ∀ (t : List UInt8) (i a : Nat) (out : List (List UInt8)), s.toList.drop i = t → a ≤ i → i ≤ s.size → out.length ≤ i →
    Ev (fun k => rafterref03_Split.l0 k s (out.map B) (a : Int) (i : Int)) ((closed t ((s.toList.drop a).take (i - a)) out).1.map B, decide ((closed t ((s.toList.drop a).take (i - a)) out).2 = []))
  | [], i, a, out, ht, ha, hi, ho => by
    have hge := drop_nil ht
    have hlen := toList_length s
    have e : s.size = i := by omega
    refine Ev.step (f := fun k => some (out.map B, ((a : Int) == (s.size : Int)))) (fun k => ?_) ?_
    · simp only [rafterref03_Split.l0]
      rw [if_neg (by omega)]
    · rw [closed]
      have : ((a : Int) == (s.size : Int)) = decide (((s.toList.drop a).take (i - a)) = []) := by
        rw [Bool.eq_iff_iff, beq_iff_eq, decide_eq_true_eq]
        constructor
        · intro h
          rw [show i - a = 0 by omega, List.take_zero]
        · intro h
          have := congrArg List.length h
          rw [List.length_take, List.length_drop, List.length_nil] at this
          omega
      rw [this]
      exact Ev.now _
  | b :: t, i, a, out, ht, ha, hi, ho => by
    have hlt := drop_lt ht
    have hb := bt_cons ht
    have hw : wrap64 ((i : Int) + 1) = ((i + 1 : Nat) : Int) := by rw [wrap64_in (by omega) (by omega)]; omega
    have hx : s.extract a i = B ((s.toList.drop a).take (i - a)) := extract_mid s a i
    rw [closed]
    by_cases e : b = 10
    · subst e
      rw [if_pos rfl]
      have ih := refSplit_loop s hs t (i + 1) (i + 1) (out ++ [(s.toList.drop a).take (i - a)]) (drop_succ ht) (Nat.le_refl _) (by omega) (by simp; omega)
      rw [Nat.sub_self, List.take_zero, List.map_append] at ih
      refine Ev.step (fun k => ?_) ih
      simp only [rafterref03_Split.l0]
      rw [if_pos (by omega), if_pos (by omega), hb, if_pos (show (((10 : UInt8).toNat : Nat) : Int) = 10 from rfl), if_pos (by omega), if_pos (by omega), if_pos (by omega), if_pos (by rw [List.length_map]; omega), Int.toNat_natCast, Int.toNat_natCast, hx, hw]
      rfl
    · rw [if_neg e]
      have hcur : (s.toList.drop a).take (i + 1 - a) = (s.toList.drop a).take (i - a) ++ [b] := by
        rw [show i + 1 - a = i - a + 1 by omega, List.take_add_one]
        congr 1
        rw [List.getElem?_drop, show a + (i - a) = i by omega]
        have := congrArg (fun l => l[0]?) ht
        simp at this
        rw [this]
        rfl
      have ih := refSplit_loop s hs t (i + 1) a out (drop_succ ht) (by omega) (by omega) (by omega)
      rw [hcur] at ih
      have hne : ¬ (b.toNat : Int) = 10 := fun h => e (UInt8.toNat_inj.1 (by show b.toNat = 10; omega))
      refine Ev.step (fun k => ?_) ih
      simp only [rafterref03_Split.l0]
      rw [if_pos (by omega), if_pos (by omega), hb, if_neg hne, hw]
theorem refSplit_ev (s : ByteArray) (hs : s.size ≤ 100000) : Ev (fun k => rafterref03_Split.f k s) ((splitL 10 s.toList).dropLast.map B, decide ((splitL 10 s.toList).getLastD [] = [])) := by
  unfold rafterref03_Split.f
  have := refSplit_loop s hs s.toList 0 0 [] rfl (Nat.le_refl _) (Nat.zero_le _) (Nat.le_refl _)
  rw [List.drop_zero, Nat.sub_self, List.take_zero, closed_eq _ _ _ (by simp), List.nil_append, List.nil_append] at this
  exact this
theorem joinL_app10 : ∀ {a b : List (List UInt8)}, a ≠ [] → b ≠ [] → joinL 10 (a ++ b) = joinL 10 a ++ 10 :: joinL 10 b
  | [], b, h, _ => absurd rfl h
  | [x], b, _, hb => by rw [List.singleton_append, joinL_cons 10 x hb]; simp [joinL]
  | x :: y :: a, b, _, hb => by
    rw [List.cons_append, joinL_cons 10 x (by simp), joinL_app10 (a := y :: a) (by simp) hb, joinL_cons 10 x (by simp)]
    simp
theorem splitL_app10 (a b : List UInt8) : splitL 10 (a ++ 10 :: b) = splitL 10 a ++ splitL 10 b := by
  have h : joinL 10 (splitL 10 a ++ splitL 10 b) = a ++ 10 :: b := by
    rw [joinL_app10 (splitL_ne 10 a) (splitL_ne 10 b), joinL_splitL, joinL_splitL]
  rw [← h]
  refine splitL_joinL 10 _ (by simp [splitL_ne]) ?_
  intro x hx
  rcases List.mem_append.1 hx with hx | hx
  · exact splitL_free 10 a x hx
  · exact splitL_free 10 b x hx
/-- Both ways to tell a text's lines are one. -/
theorem split_both (s : List UInt8) : splitRes s = if (splitL 10 s).getLastD [] = [] then (if checkL (splitL 10 s).dropLast = 0 then ((splitL 10 s).dropLast, 0) else ([], checkL (splitL 10 s).dropLast)) else ([], 6) := by
  unfold splitRes
  by_cases h : s = []
  · subst h
    rfl
  · rw [if_neg h]
    have hl : s.getLast? = some (s.getLast h) := List.getLast?_eq_some_getLast h
    have hs : s = s.dropLast ++ [s.getLast h] := (List.dropLast_concat_getLast h).symm
    by_cases e : s.getLast h = 10
    · have hsp : splitL 10 s = splitL 10 s.dropLast ++ [[]] := by
        conv => lhs; rw [hs, e]
        rw [splitL_app10]
        rfl
      have hl2 : (splitL 10 s).getLastD [] = [] := by rw [hsp]; simp
      have hd : (splitL 10 s).dropLast = splitL 10 s.dropLast := by rw [hsp]; simp
      rw [hl, e, if_pos rfl, if_pos hl2, hd]
    · rw [hl, if_neg (by simp [e]), if_neg]
      intro h0
      have hne := splitL_ne 10 s
      have hsp : splitL 10 s = (splitL 10 s).dropLast ++ [(splitL 10 s).getLast hne] := (List.dropLast_concat_getLast hne).symm
      have h1 : (splitL 10 s).getLast hne = [] := by
        rw [List.getLastD_eq_getLast?, List.getLast?_eq_some_getLast hne] at h0
        exact h0
      rw [h1] at hsp
      have hj := joinL_splitL 10 s
      rw [hsp] at hj
      by_cases hd : (splitL 10 s).dropLast = []
      · rw [hd] at hj
        exact h (by rw [← hj]; rfl)
      · rw [joinL_app10 hd (by simp)] at hj
        have : s.getLast? = some 10 := by rw [← hj]; simp [joinL]
        rw [hl] at this
        exact e (Option.some.inj this)
end Go.Proofs.YtigpnhgheameoaaDoor.Plain
namespace Go.Proofs.YtigpnhgheameoaaDoor.Pure
open Go.RowKit Go.Proofs.YtigpnhgheameoaaDoor.G Go.Proofs.YtigpnhgheameoaaDoor.Plain Go.Proofs.YtigpnhgheameoaaDoorW.PrintWords Go.Proofs.YtigpnhgheameoaaDoorW.PrintLast Go.Proofs.YtigpnhgheameoaaDoorW.PrintMore

theorem LinesSplits : rafterlaw03_LinesSplits.Pure := by
  intro s hs0
  suffices h : Ev (fun k => rafterlaw03_LinesSplits.f k s) true by
    obtain ⟨N, hN⟩ := h
    exact ⟨N, hN N (Nat.le_refl _)⟩
  unfold rafterlaw03_LinesSplits.f
  by_cases hb : (s.size : Int) > 1000
  · exact Ev.pos hb (Ev.bind awake03 (Ev.now _))
  refine Ev.neg hb ?_
  have hs : s.size ≤ 1000 := by omega
  have hlen := toList_length s
  have hcnt : (splitL 10 s.toList).length ≤ 1001 := by
    rw [splitL_length]
    have := List.count_le_length (a := (10 : UInt8)) (l := s.toList)
    omega
  have hsz : ∀ x ∈ (splitL 10 s.toList), x.length ≤ 1000 := by
    intro x hx
    have h1 : ∀ (l : List (List UInt8)) (x : List UInt8), x ∈ l → x.length ≤ (joinL 10 l).length := by
      intro l
      induction l with
      | nil => intro x hx; cases hx
      | cons y l ih =>
        intro x hx
        rcases List.mem_cons.1 hx with e | hx
        · subst e
          cases l with
          | nil => simp [joinL]
          | cons z l => rw [joinL_cons 10 x (by simp), List.length_append]; omega
        · have hne : l ≠ [] := fun e => by rw [e] at hx; cases hx
          rw [joinL_cons 10 y hne, List.length_append, List.length_cons]
          have := ih x hx
          omega
    have := h1 _ x hx
    rw [joinL_splitL] at this
    omega
  have hj1 : Ev (fun k => rafterlaw03_LinesSplits.j1 k s false) true := by
    refine Ev.step (fun k => by rw [rafterlaw03_LinesSplits.j1, if_neg (by decide)]) (Ev.bind (get3_ev s (by omega)) ?_)
    have hg : (∃ xs, dlist s.toList = .inr (xs, []) ∧ checkL xs = 0 ∧ getRes s.toList = (xs, 0)) ∨ ((getRes s.toList).1 = [] ∧ (getRes s.toList).2 ≠ 0) := by
      unfold getRes
      cases hd : dlist s.toList with
      | inl e => have := dlist_err hd; exact .inr ⟨rfl, by show e ≠ 0; omega⟩
      | inr p =>
        obtain ⟨xs, t⟩ := p
        by_cases ht : t = []
        · subst ht
          by_cases c : checkL xs = 0
          · exact .inl ⟨xs, rfl, c, by simp [c]⟩
          · exact .inr ⟨by simp [c], by simp [c]⟩
        · exact .inr ⟨by simp [ht], by simp [ht]⟩
    rcases hg with ⟨xs, hd, c, hg⟩ | ⟨h1, h2⟩
    · rw [hg]
      refine Ev.pos rfl (Ev.bind awake03 (Ev.pos rfl ?_))
      have hse := dlist_enc hd
      rw [List.append_nil] at hse
      have hok := checkL_ok c
      have hx : ∀ x ∈ xs.map B, x.size ≤ 200 := by
        intro x hx
        obtain ⟨y, hy, rfl⟩ := List.mem_map.1 hx
        have := hok.2 y hy
        unfold lineOk at this
        simp only [Bool.and_eq_true, decide_eq_true_eq] at this
        rw [size_B]
        exact this.1.1
      have htot := total_le (xs.map B) 200 hx
      rw [List.length_map] at htot
      have hm := Nat.mul_le_mul_left 210 hok.1
      have hl := ref_list (xs.map B) (by rw [List.length_map]; omega) (by omega)
      have hc := ref3_check (xs.map B) (by rw [List.length_map]; omega) (fun x h => by have := hx x h; omega)
      rw [map_B10] at hl hc
      rw [c] at hc
      refine Ev.bind hl (Ev.pos (by rw [toList_B, hse]) (Ev.bind hc ?_))
      exact Ev.now _
    · refine Ev.neg h2 (Ev.bind awake03 (Ev.pos rfl ?_))
      rw [h1]
      exact Ev.now _
  have hfin : ∀ (l : List (List UInt8)) (e : Int) (m : List (List UInt8)), m.length ≤ 100000 → (e = 0 → l = m) → (e ≠ 0 → l = []) → Ev (fun k => rafterlaw03_LinesSplits.j0 k s (l.map B) e (m.map B) e) true := by
    intro l e m hm h0 h1
    refine Ev.step (fun k => by rw [rafterlaw03_LinesSplits.j0, if_pos rfl]) ?_
    by_cases c : e = 0
    · have hsm := ref_same (l.map B) (m.map B) (by rw [List.length_map, h0 c]; omega)
      rw [h0 c, decide_eq_true rfl] at hsm
      rw [h0 c]
      exact Ev.pos c (Ev.bind hsm (Ev.pos rfl hj1))
    · rw [h1 c]
      exact Ev.neg c hj1
  have hm : (splitL 10 s.toList).dropLast.length ≤ 100000 := by rw [List.length_dropLast]; omega
  have hchk := ref3_check ((splitL 10 s.toList).dropLast.map B) (by rw [List.length_map]; omega) (by
    intro x hx
    obtain ⟨y, hy, rfl⟩ := List.mem_map.1 hx
    have := hsz y (List.dropLast_subset _ hy)
    rw [size_B]; omega)
  rw [map_B10] at hchk
  refine Ev.bind (split3_ev s (by omega)) (Ev.bind (refSplit_ev s (by omega)) (Ev.bind hchk ?_))
  rw [split_both]
  by_cases c : (splitL 10 s.toList).getLastD [] = []
  · refine Ev.pos (decide_eq_true c) ?_
    rw [if_pos c]
    by_cases d : checkL (splitL 10 s.toList).dropLast = 0
    · rw [if_pos d, d]
      exact hfin _ 0 _ hm (fun _ => rfl) (fun h => absurd rfl h)
    · rw [if_neg d]
      exact hfin [] _ _ hm (fun h => absurd h d) (fun _ => rfl)
  · refine Ev.neg (fun h => c (of_decide_eq_true h)) ?_
    rw [if_neg c]
    exact hfin [] 6 _ hm (fun h => by cases h) (fun _ => rfl)

end Go.Proofs.YtigpnhgheameoaaDoor.Pure
