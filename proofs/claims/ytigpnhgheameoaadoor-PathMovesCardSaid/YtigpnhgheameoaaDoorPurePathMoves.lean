/- PathMoves in plain words. -/
import Derived.Test.YtigpnhgheameoaaDoorPathMore
import Derived.Test.YtigpnhgheameoaaDoorG12
set_option linter.unusedVariables false
namespace Go.Proofs.YtigpnhgheameoaaDoor.Pure
open Go.RowKit Go.Proofs.YtigpnhgheameoaaDoor.G Go.Proofs.YtigpnhgheameoaaDoor.Plain Go.Proofs.YtigpnhgheameoaaDoorW.PrintWords Go.Proofs.YtigpnhgheameoaaDoorW.PrintLast Go.Proofs.YtigpnhgheameoaaDoorW.PrintMore

theorem begins_ev (A C : List (List UInt8)) (hA : A.length ≤ 100000) : Ev (fun k => rafterref05_Begins.f k (A.map B) (C.map B)) (decide (C <+: A)) := by
  unfold rafterref05_Begins.f
  rw [List.length_map, List.length_map]
  by_cases h : C.length ≤ A.length
  · refine Ev.neg (by omega) (Ev.pos (by omega) (Ev.pos (by omega) ?_))
    rw [Int.toNat_natCast]
    have hs := same_ev ((A.map B).take C.length) (C.map B) (by rw [List.length_take, List.length_map]; omega)
    rw [← List.map_take, map_B, map_B] at hs
    have e : decide (A.take C.length = C) = decide (C <+: A) := by
      rw [Bool.eq_iff_iff]
      simp only [decide_eq_true_eq]
      rw [List.prefix_iff_eq_take]
      exact ⟨fun h => h.symm, fun h => h.symm⟩
    rw [e] at hs
    rw [← List.map_take]
    exact Ev.bind hs (Ev.now _)
  · refine Ev.pos (by omega) ?_
    rw [decide_eq_false (fun hp => h hp.length_le)]
    exact Ev.now _
theorem within_names (p q : List UInt8) : pathWithin p q = true ↔ names p ≠ [] ∧ (q = [] ∨ names q ≠ []) ∧ (names q).length < (names p).length ∧ names q <+: names p := by
  rw [names_ne, names_ne]
  unfold pathWithin
  by_cases h1 : pathOk p = true
  · rw [h1, Bool.true_and]
    by_cases h2 : q = []
    · rw [decide_eq_true h2, Bool.true_or]
      refine ⟨fun _ => ⟨rfl, .inl h2, ?_, ?_⟩, fun _ => rfl⟩
      · rw [h2, names_bad (by rw [pathOk_empty]; decide)]
        exact List.length_pos_iff.2 (names_ne.2 h1)
      · rw [h2, names_bad (by rw [pathOk_empty]; decide)]
        exact List.nil_prefix
    · rw [decide_eq_false h2, Bool.false_or]
      by_cases h3 : pathOk q = true
      · rw [h3, Bool.true_and, decide_eq_true_eq, names_ok h1, names_ok h3]
        constructor
        · rintro ⟨r, hr⟩
          have e : p = q ++ 47 :: r := by rw [← hr]; simp
          refine ⟨rfl, .inr rfl, ?_, (begins_text p q).2 (.inr ⟨r, e⟩)⟩
          rw [e, splitL_app, List.length_append]
          have := List.length_pos_iff.2 (splitL_ne 47 r)
          omega
        · rintro ⟨_, _, hlt, hp⟩
          rcases (begins_text p q).1 hp with e | ⟨r, e⟩
          · rw [e] at hlt; omega
          · exact ⟨r, by rw [e]; simp⟩
      · constructor
        · intro h
          rw [Bool.eq_false_iff.2 h3] at h
          cases h
        · rintro ⟨_, h, _⟩
          rcases h with h | h
          · exact absurd h h2
          · exact absurd h h3
  · constructor
    · intro h
      rw [Bool.eq_false_iff.2 h1] at h
      cases h
    · rintro ⟨h, _⟩
      exact absurd h h1
theorem moved_joined (p q r : List UInt8) (h1 : pathOk p = true) (h2 : pathOk q = true) (h3 : pathOk r = true) (h : names q <+: names p) :
    joinL 47 (names r ++ (names p).drop (names q).length) = r ++ p.drop q.length ∧ (p = q ∨ pathWithin p q = true) := by
  rw [names_ok h1, names_ok h2] at h
  rw [names_ok h1, names_ok h2, names_ok h3]
  rcases (begins_text p q).1 h with e | ⟨t, e⟩
  · refine ⟨?_, .inl e⟩
    rw [e, List.drop_length, List.drop_length, List.append_nil, List.append_nil, joinL_splitL]
  · refine ⟨?_, .inr ?_⟩
    · rw [e, splitL_app, List.drop_left, List.drop_left, joinL_app 47 (splitL_ne 47 r) (splitL_ne 47 t), joinL_splitL, joinL_splitL]
    · have hq : q ≠ [] := fun e0 => by rw [e0] at h2; exact absurd h2 (by rw [pathOk_empty]; decide)
      unfold pathWithin
      rw [h1, h2, decide_eq_true (show q ++ [47] <+: p from ⟨t, by rw [e]; simp⟩)]
      simp
theorem not_moved (p q r : List UInt8) (h : ¬ (pathOk p = true ∧ pathOk q = true ∧ pathOk r = true ∧ names q <+: names p)) : pathMove p q r = p := by
  unfold pathMove
  rw [if_neg]
  rintro ⟨h1, h2, h3, h4, _⟩
  refine h ⟨h1, h2, h3, ?_⟩
  rcases h4 with h4 | h4
  · rw [h4]; exact List.prefix_rfl
  · exact ((within_names p q).1 h4).2.2.2

theorem fin05 (a b c x11 : ByteArray) (x10 : Bool) (ha : a.size ≤ 400) (hb : b.size ≤ 400) (hc : c.size ≤ 400) (h10 : x10 = pathWithin a.toList b.toList) (h11 : x11.toList = pathMove a.toList b.toList c.toList) :
    Ev (fun k => (rafterlaw05_awake.f k).bind fun t263 => (if t263 = true then ((path_Within.f k a b).bind fun t264 => (if (t264 == x10) = true then ((path_Move.f k a b c).bind fun t265 => (some (t265.toList == x11.toList))) else (some false))) else (some false))) true := by
  refine Ev.bind awake05 (Ev.pos rfl (Ev.bind (within_ev a b (by omega) (by omega)) (Ev.pos (by rw [h10]; simp) (Ev.bind (move_ev a b c (by omega) (by omega) (by omega)) ?_))))
  refine Ev.congr (fun k => ?_) (Ev.now true)
  rw [toList_B, h11]
  simp
theorem j2_false (a b c : ByteArray) (x10 : Bool) (A D C : List ByteArray) (ha : a.size ≤ 400) (hb : b.size ≤ 400) (hc : c.size ≤ 400) (h10 : x10 = pathWithin a.toList b.toList) (h11 : a.toList = pathMove a.toList b.toList c.toList) :
    Ev (fun k => rafterlaw05_PathMoves.j2 k a b c A D C x10 a false) true := by
  refine Ev.step (fun k => ?_) (fin05 a b c a x10 ha hb hc h10 h11)
  simp only [rafterlaw05_PathMoves.j2]
  rw [if_neg (by decide)]
theorem j2_true (a b c : ByteArray) (x10 : Bool) (ha : a.size ≤ 400) (hb : b.size ≤ 400) (hc : c.size ≤ 400) (h10 : x10 = pathWithin a.toList b.toList)
    (h1 : pathOk a.toList = true) (h2 : pathOk b.toList = true) (h3 : pathOk c.toList = true) (h : names b.toList <+: names a.toList) :
    Ev (fun k => rafterlaw05_PathMoves.j2 k a b c ((names a.toList).map B) ((names b.toList).map B) ((names c.toList).map B) x10 a true) true := by
  have ⟨hj, hor⟩ := moved_joined a.toList b.toList c.toList h1 h2 h3 h
  have la := names_len a.toList
  have lb := names_len b.toList
  have lc := names_len c.toList
  have hle := h.length_le
  have e1 : ([] : List ByteArray) ++ (names c.toList).map B ++ ((names a.toList).map B).drop (names b.toList).length = (names c.toList ++ (names a.toList).drop (names b.toList).length).map B := by
    rw [List.nil_append, List.map_append, List.map_drop]
  have hjlen : (c.toList ++ a.toList.drop b.toList.length).length ≤ 900 := by
    rw [List.length_append, List.length_drop, toList_length, toList_length, toList_length]; omega
  have hJ := join_ev ((names c.toList ++ (names a.toList).drop (names b.toList).length).map B) (by rw [List.length_map, List.length_append, List.length_drop]; omega) (by rw [map_B, hj]; omega)
  rw [map_B, hj] at hJ
  have hR := refRight_ev (B (c.toList ++ a.toList.drop b.toList.length)) (by rw [size_B]; omega)
  rw [toList_B] at hR
  have hm : pathMove a.toList b.toList c.toList = if pathOk (c.toList ++ a.toList.drop b.toList.length) = true then c.toList ++ a.toList.drop b.toList.length else a.toList := by
    unfold pathMove
    by_cases h5 : pathOk (c.toList ++ a.toList.drop b.toList.length) = true
    · rw [if_pos ⟨h1, h2, h3, hor, h5⟩, if_pos h5]
    · rw [if_neg (fun h => h5 h.2.2.2.2), if_neg h5]
  refine Ev.step (f := fun k => (rafterref05_Join.f k ((names c.toList ++ (names a.toList).drop (names b.toList).length).map B)).bind fun t255 => ((rafterref05_Right.f k t255).bind fun t256 => (if t256 = true then ((rafterlaw05_awake.f k).bind fun t257 => (if t257 = true then ((path_Within.f k a b).bind fun t258 => (if (t258 == x10) = true then ((path_Move.f k a b c).bind fun t259 => (some (t259.toList == t255.toList))) else (some false))) else (some false))) else ((rafterlaw05_awake.f k).bind fun t260 => (if t260 = true then ((path_Within.f k a b).bind fun t261 => (if (t261 == x10) = true then ((path_Move.f k a b c).bind fun t262 => (some (t262.toList == a.toList))) else (some false))) else (some false)))))) (fun k => ?_) (Ev.bind hJ (Ev.bind hR ?_))
  · simp only [rafterlaw05_PathMoves.j2, Option.bind_some, List.length_map, List.length_nil, List.length_append, List.length_drop]
    rw [if_pos trivial, if_pos (by omega), if_pos (by omega), if_pos (by omega), if_pos (by omega), Int.toNat_natCast, e1]
  · by_cases h5 : pathOk (c.toList ++ a.toList.drop b.toList.length) = true
    · exact Ev.pos h5 (fin05 a b c _ x10 ha hb hc h10 (by rw [toList_B, hm, if_pos h5]))
    · exact Ev.neg h5 (fin05 a b c a x10 ha hb hc h10 (by rw [hm, if_neg h5]))
theorem j1_ev (a b c : ByteArray) (x10 : Bool) (ha : a.size ≤ 400) (hb : b.size ≤ 400) (hc : c.size ≤ 400) (h10 : x10 = pathWithin a.toList b.toList) :
    Ev (fun k => rafterlaw05_PathMoves.j1 k a b c ((names a.toList).map B) ((names b.toList).map B) ((names c.toList).map B) x10) true := by
  have la := names_len a.toList
  have lz : ∀ p : List UInt8, (((names p).map B).length : Int) > 0 ↔ pathOk p = true := fun p => by
    rw [List.length_map, ← names_ne, ← List.length_pos_iff]; omega
  refine Ev.step (fun k => by rw [rafterlaw05_PathMoves.j1]) ?_
  by_cases h1 : pathOk a.toList = true
  · refine Ev.pos ((lz _).2 h1) ?_
    by_cases h2 : pathOk b.toList = true
    · refine Ev.pos ((lz _).2 h2) ?_
      by_cases h3 : pathOk c.toList = true
      · refine Ev.pos ((lz _).2 h3) (Ev.bind (begins_ev (names a.toList) (names b.toList) (by omega)) ?_)
        by_cases h4 : names b.toList <+: names a.toList
        · rw [decide_eq_true h4]
          exact j2_true a b c x10 ha hb hc h10 h1 h2 h3 h4
        · rw [decide_eq_false h4]
          exact j2_false a b c x10 _ _ _ ha hb hc h10 (not_moved _ _ _ (fun h => h4 h.2.2.2)).symm
      · exact Ev.neg (fun h => h3 ((lz _).1 h)) (j2_false a b c x10 _ _ _ ha hb hc h10 (not_moved _ _ _ (fun h => h3 h.2.2.1)).symm)
    · exact Ev.neg (fun h => h2 ((lz _).1 h)) (j2_false a b c x10 _ _ _ ha hb hc h10 (not_moved _ _ _ (fun h => h2 h.2.1)).symm)
  · exact Ev.neg (fun h => h1 ((lz _).1 h)) (j2_false a b c x10 _ _ _ ha hb hc h10 (not_moved _ _ _ (fun h => h1 h.1)).symm)

theorem PathMoves : rafterlaw05_PathMoves.Pure := by
  intro a b c ha hb hc
  suffices h : Ev (fun k => rafterlaw05_PathMoves.f k a b c) true by
    obtain ⟨N, hN⟩ := h
    exact ⟨N, hN N (Nat.le_refl _)⟩
  have hT : Ev (fun k => rafterlaw05_PathMoves.j0 k a b c true) true := by
    refine Ev.step (fun k => ?_) (Ev.bind awake05 (Ev.now _))
    simp only [rafterlaw05_PathMoves.j0]
    rw [if_pos trivial]
  unfold rafterlaw05_PathMoves.f
  by_cases h1 : (a.size : Int) > 400
  · exact Ev.pos h1 hT
  refine Ev.neg h1 ?_
  by_cases h2 : (b.size : Int) > 400
  · exact Ev.pos h2 hT
  refine Ev.neg h2 ?_
  by_cases h3 : (c.size : Int) > 400
  · rw [decide_eq_true h3]; exact hT
  rw [decide_eq_false h3]
  have ha4 : a.size ≤ 400 := by omega
  have hb4 : b.size ≤ 400 := by omega
  have hc4 : c.size ≤ 400 := by omega
  have la := names_len a.toList
  have lz : ∀ p : List UInt8, (((names p).map B).length : Int) > 0 ↔ names p ≠ [] := fun p => by
    rw [List.length_map, ← List.length_pos_iff]; omega
  refine Ev.step (fun k => by rw [rafterlaw05_PathMoves.j0, if_neg (by decide)]) ?_
  refine Ev.bind (refNames_ev a (by omega)) (Ev.bind (refNames_ev b (by omega)) (Ev.bind (refNames_ev c (by omega)) ?_))
  have hno : ∀ {x : Bool}, x = false → ¬ (names a.toList ≠ [] ∧ (b.toList = [] ∨ names b.toList ≠ []) ∧ (names b.toList).length < (names a.toList).length ∧ names b.toList <+: names a.toList) → x = pathWithin a.toList b.toList := fun hx h => by
    rw [hx, Bool.eq_false_iff.2 (fun h5 => h ((within_names _ _).1 h5))]
  have hgo : b.toList = [] ∨ names b.toList ≠ [] → names a.toList ≠ [] → Ev (fun k => (if (((names a.toList).map B).length : Int) > (((names b.toList).map B).length : Int) then ((rafterref05_Begins.f k ((names a.toList).map B) ((names b.toList).map B)).bind fun t239 => (rafterlaw05_PathMoves.j1 k a b c ((names a.toList).map B) ((names b.toList).map B) ((names c.toList).map B) t239)) else (rafterlaw05_PathMoves.j1 k a b c ((names a.toList).map B) ((names b.toList).map B) ((names c.toList).map B) false))) true := by
    intro hq hp
    by_cases h5 : (((names a.toList).map B).length : Int) > (((names b.toList).map B).length : Int)
    · have h5' : (names b.toList).length < (names a.toList).length := by rw [List.length_map, List.length_map] at h5; omega
      refine Ev.pos h5 (Ev.bind (begins_ev (names a.toList) (names b.toList) (by omega)) (j1_ev a b c _ ha4 hb4 hc4 ?_))
      rw [Bool.eq_iff_iff, within_names, decide_eq_true_eq]
      exact ⟨fun h => ⟨hp, hq, h5', h⟩, fun h => h.2.2.2⟩
    · refine Ev.neg h5 (j1_ev a b c _ ha4 hb4 hc4 (hno rfl ?_))
      rintro ⟨_, _, h, _⟩
      rw [List.length_map, List.length_map] at h5
      omega
  by_cases hp : names a.toList = []
  · exact Ev.neg (fun h => (lz _).1 h hp) (j1_ev a b c _ ha4 hb4 hc4 (hno rfl (fun h => h.1 hp)))
  refine Ev.pos ((lz _).2 hp) ?_
  by_cases hq : b.toList = []
  · exact Ev.pos hq (hgo (.inl hq) hp)
  refine Ev.neg hq ?_
  by_cases hq2 : names b.toList = []
  · refine Ev.neg (fun h => (lz _).1 h hq2) (j1_ev a b c _ ha4 hb4 hc4 (hno rfl ?_))
    rintro ⟨_, h, _⟩
    rcases h with h | h
    · exact hq h
    · exact h hq2
  · exact Ev.pos ((lz _).2 hq2) (hgo (.inr hq2) hp)

end Go.Proofs.YtigpnhgheameoaaDoor.Pure
