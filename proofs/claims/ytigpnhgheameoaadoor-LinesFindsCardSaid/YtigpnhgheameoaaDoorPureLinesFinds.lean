/- LinesFinds in plain words. -/
import Derived.Test.YtigpnhgheameoaaDoorPureLinesTexts
import Derived.Test.YtigpnhgheameoaaDoorLinesFind
import Derived.Test.YtigpnhgheameoaaDoorG15
set_option linter.unusedVariables false
namespace Go.Proofs.YtigpnhgheameoaaDoor.Plain
open Go.RowKit Go.Proofs.YtigpnhgheameoaaDoor.G Go.Proofs.YtigpnhgheameoaaDoorW.PrintWords Go.Proofs.YtigpnhgheameoaaDoorW.PrintLast Go.Proofs.YtigpnhgheameoaaDoorW.PrintMore

/-- Do lines stand at a place? -/
def atB (L P : List (List UInt8)) (i : Nat) : Bool := decide (i + P.length ≤ L.length) && decide ((L.drop i).take P.length = P)
def fromB (L P : List (List UInt8)) (i : Nat) : Int := findFrom L P (L.length + 1 - i) i
theorem fromB_end (L P : List (List UInt8)) (i : Nat) (h : L.length < i) : fromB L P i = -1 := by
  unfold fromB
  exact findFrom_end _ _ _ _ (by omega)
theorem fromB_step (L P : List (List UInt8)) (i : Nat) (h : i ≤ L.length) : fromB L P i = if atB L P i = true then (i : Int) else fromB L P (i + 1) := by
  unfold fromB
  rw [show L.length + 1 - i = (L.length + 1 - (i + 1)) + 1 by omega, findFrom]
  unfold atB
  by_cases h1 : i + P.length ≤ L.length
  · rw [if_pos h1, decide_eq_true h1, Bool.true_and]
    by_cases h2 : (L.drop i).take P.length = P
    · rw [if_pos h2, if_pos (decide_eq_true h2)]
    · rw [if_neg h2, if_neg (fun e => h2 (of_decide_eq_true e))]
  · rw [if_neg h1, decide_eq_false h1, Bool.false_and, if_neg (by decide), findFrom_end _ _ _ _ (by omega)]
theorem findFrom_fuel (L P : List (List UInt8)) : ∀ (f i : Nat), L.length < i + f → findFrom L P f i = fromB L P i
  | 0, i, h => by rw [findFrom, fromB_end L P i (by omega)]
  | f + 1, i, h => by
    by_cases hi : i ≤ L.length
    · rw [fromB_step L P i hi, findFrom, findFrom_fuel L P f (i + 1) (by omega)]
      unfold atB
      by_cases h1 : i + P.length ≤ L.length
      · rw [if_pos h1, decide_eq_true h1, Bool.true_and]
        by_cases h2 : (L.drop i).take P.length = P
        · rw [if_pos h2, if_pos (decide_eq_true h2)]
        · rw [if_neg h2, if_neg (fun e => h2 (of_decide_eq_true e))]
      · rw [if_neg h1, decide_eq_false h1, Bool.false_and, if_neg (by decide)]
        unfold fromB
        rw [findFrom_end _ _ _ _ (by omega)]
    · rw [fromB_end L P i (by omega), findFrom_end _ _ _ _ (by omega)]
theorem at_loop (a b : List ByteArray) (j : Nat) (hj : j + b.length ≤ a.length) (hm : a.length ≤ 100000) : ∀ (u t : List ByteArray) (i : Nat), b.drop i = u → (a.drop j).drop i = t →
    Ev (fun k => rafterref03_At.l0 k a b (j : Int) (i : Int)) (decide (((t.take u.length).map ByteArray.toList) = u.map ByteArray.toList))
  | [], t, i, hu, ht => by
    have hge := List.drop_eq_nil_iff.1 hu
    refine Ev.step (f := fun k => some true) (fun k => ?_) ?_
    · simp only [rafterref03_At.l0]
      rw [if_neg (by omega)]
    · simp
      exact Ev.now _
  | y :: u, t, i, hu, ht => by
    have hlt := drop_cons_lt hu
    have hw : wrap64 ((i : Int) + 1) = ((i + 1 : Nat) : Int) := by rw [wrap64_in (by omega) (by omega)]; omega
    have hw2 : wrap64 ((j : Int) + (i : Int)) = ((j + i : Nat) : Int) := by rw [wrap64_in (by omega) (by omega)]; omega
    rw [List.drop_drop] at ht
    cases t with
    | nil => have := List.drop_eq_nil_iff.1 ht; omega
    | cons x t =>
      have ih := at_loop a b j hj hm u t (i + 1) (drop_cons_succ hu) (by rw [List.drop_drop]; have := drop_cons_succ ht; rw [← this]; rfl)
      rw [List.length_cons, List.take_succ_cons, List.map_cons, List.map_cons]
      by_cases e : x.toList = y.toList
      · have e2 : decide (x.toList :: (t.take u.length).map ByteArray.toList = y.toList :: u.map ByteArray.toList) = decide ((t.take u.length).map ByteArray.toList = u.map ByteArray.toList) := by simp [e]
        rw [e2]
        refine Ev.step (fun k => ?_) ih
        simp only [rafterref03_At.l0]
        rw [if_pos (by omega), hw2, if_pos (by omega), if_pos (by omega), if_pos (by omega), rdOf_cons ht, rdOf_cons hu, if_pos e, hw]
      · rw [decide_eq_false (fun h => e (List.cons.inj h).1)]
        refine Ev.step (f := fun k => some false) (fun k => ?_) (Ev.now _)
        simp only [rafterref03_At.l0]
        rw [if_pos (by omega), hw2, if_pos (by omega), if_pos (by omega), if_pos (by omega), rdOf_cons ht, rdOf_cons hu, if_neg e]
theorem at_ev (a b : List ByteArray) (j : Nat) (hj : j ≤ a.length) (hm : a.length ≤ 100000) (hb : b.length ≤ 100000) : Ev (fun k => rafterref03_At.f k a b (j : Int)) (atB (a.map ByteArray.toList) (b.map ByteArray.toList) j) := by
  unfold rafterref03_At.f atB
  have hw : wrap64 ((a.length : Int) - (j : Int)) = ((a.length - j : Nat) : Int) := by rw [wrap64_in (by omega) (by omega)]; omega
  rw [List.length_map, List.length_map, hw]
  refine Ev.neg (by omega) ?_
  by_cases h : j + b.length ≤ a.length
  · rw [decide_eq_true h, Bool.true_and, decide_eq_false (by omega)]
    have := at_loop a b j h hm b (a.drop j) 0 rfl rfl
    rw [← List.map_drop, ← List.map_take]
    refine Ev.step (fun k => by rw [rafterref03_At.j0, if_neg (by decide)]) ?_
    exact this
  · rw [decide_eq_false h, Bool.false_and, decide_eq_true (by omega)]
    refine Ev.step (f := fun k => some false) (fun k => by rw [rafterref03_At.j0, if_pos rfl]) (Ev.now _)
theorem same_texts (a b : List ByteArray) : decide (a.map ByteArray.toList = b.map ByteArray.toList) = decide (a = b) := by
  rw [Bool.eq_iff_iff, decide_eq_true_eq, decide_eq_true_eq]
  refine ⟨fun h => ?_, fun h => by rw [h]⟩
  rw [← map_B_toList a, h, map_B_toList]
end Go.Proofs.YtigpnhgheameoaaDoor.Plain
namespace Go.Proofs.YtigpnhgheameoaaDoor.Pure
open Go.RowKit Go.Proofs.YtigpnhgheameoaaDoor.G Go.Proofs.YtigpnhgheameoaaDoor.Plain Go.Proofs.YtigpnhgheameoaaDoorW.PrintWords Go.Proofs.YtigpnhgheameoaaDoorW.PrintLast Go.Proofs.YtigpnhgheameoaaDoorW.PrintMore

theorem find_fin (a b : List ByteArray) (s : ByteArray) (x7 x8 x5 x9 : Int) (ha : a.length ≤ 100000) (hs : s.size ≤ 1000) (h : x7 = x8) : Ev (fun k => rafterlaw03_LinesFinds.j2 k a b x5 s x7 x8 x9 false) true := by
  refine Ev.step (fun k => by rw [rafterlaw03_LinesFinds.j2, if_neg (by decide)]) ?_
  have h1 := equal_ev a b (by omega)
  have h2 := ref_same a b (by omega)
  rw [same_texts] at h1
  refine Ev.bind awake03 (Ev.pos rfl (Ev.pos h (Ev.bind (r := _) (Ev.bind h1 (Ev.now _)) (Ev.bind h2 (Ev.pos (by simp) ?_)))))
  rw [lines_Right.f]
  refine Ev.bind_now (Ev.bind (ref3_right s (by omega)) ?_)
  refine Ev.congr (fun k => ?_) (Ev.now true)
  simp
theorem find_loop (a b : List ByteArray) (s : ByteArray) (x5 : Int) (ha : a.length ≤ 100000) (hb : b.length ≤ 100000) (hs : s.size ≤ 1000) : ∀ (i : Nat), i ≤ a.length + 1 → x5.toNat ≤ i ∨ i = a.length + 1 →
    Ev (fun k => rafterlaw03_LinesFinds.l0 k a b x5 s (fromB (a.map ByteArray.toList) (b.map ByteArray.toList) x5.toNat) (fromB (a.map ByteArray.toList) (b.map ByteArray.toList) i) ((i : Int) - 1)) true
  | 0, hi, h => by
    refine Ev.step (f := fun k => rafterlaw03_LinesFinds.j2 k a b x5 s (fromB (a.map ByteArray.toList) (b.map ByteArray.toList) x5.toNat) (fromB (a.map ByteArray.toList) (b.map ByteArray.toList) 0) (((0 : Nat) : Int) - 1) false) (fun k => ?_) (find_fin a b s _ _ _ _ ha hs ?_)
    · rw [rafterlaw03_LinesFinds.l0, if_neg (by omega)]
    · rw [show x5.toNat = 0 by omega]
  | j + 1, hi, h => by
    have e : (((j + 1 : Nat) : Int) - 1) = (j : Int) := by omega
    rw [e]
    by_cases hx : (j : Int) ≥ x5
    · have hw : wrap64 ((j : Int) - 1) = (j : Int) - 1 := wrap64_in (by omega) (by omega)
      have ih := find_loop a b s x5 ha hb hs j (by omega) (.inl (by omega))
      have hst := fromB_step (a.map ByteArray.toList) (b.map ByteArray.toList) j (by rw [List.length_map]; omega)
      refine Ev.step (f := fun k => rafterlaw03_LinesFinds.j2 k a b x5 s (fromB (a.map ByteArray.toList) (b.map ByteArray.toList) x5.toNat) (fromB (a.map ByteArray.toList) (b.map ByteArray.toList) (j + 1)) (j : Int) true) (fun k => ?_) ?_
      · rw [rafterlaw03_LinesFinds.l0, if_pos (by omega), decide_eq_true hx]
      · refine Ev.step (fun k => by rw [rafterlaw03_LinesFinds.j2, if_pos rfl]) (Ev.bind (at_ev a b j (by omega) ha hb) ?_)
        rw [hw]
        by_cases c : atB (a.map ByteArray.toList) (b.map ByteArray.toList) j = true
        · rw [if_pos c] at hst
          rw [hst] at ih
          exact Ev.pos c ih
        · rw [if_neg c] at hst
          rw [hst] at ih
          exact Ev.neg c ih
    · refine Ev.step (f := fun k => rafterlaw03_LinesFinds.j2 k a b x5 s (fromB (a.map ByteArray.toList) (b.map ByteArray.toList) x5.toNat) (fromB (a.map ByteArray.toList) (b.map ByteArray.toList) (j + 1)) (j : Int) false) (fun k => ?_) (find_fin a b s _ _ _ _ ha hs ?_)
      · rw [rafterlaw03_LinesFinds.l0, if_pos (by omega), decide_eq_false hx]
      · rcases h with h | h
        · rw [show x5.toNat = j + 1 by omega]
        · by_cases h2 : x5.toNat = j + 1
          · rw [h2]
          · rw [fromB_end _ _ _ (by rw [List.length_map]; omega), fromB_end _ _ _ (by rw [List.length_map]; omega)]

theorem finds (a b : List ByteArray) (x5 : Int) (s : ByteArray) (ha : a.length ≤ 9223372036854775806) (hb : b.length ≤ 9223372036854775806) : ∃ k, rafterlaw03_LinesFinds.f k a b x5 s = some true := by
  suffices h : Ev (fun k => rafterlaw03_LinesFinds.f k a b x5 s) true by
    obtain ⟨N, hN⟩ := h
    exact ⟨N, hN N (Nat.le_refl _)⟩
  have hT : Ev (fun k => rafterlaw03_LinesFinds.j0 k a b x5 s true) true := by
    refine Ev.step (fun k => by rw [rafterlaw03_LinesFinds.j0, if_pos rfl]) (Ev.bind awake03 (Ev.now _))
  unfold rafterlaw03_LinesFinds.f
  refine Ev.bind (light03 a ha) ?_
  by_cases hL : (a.all (fun s => decide (s.size ≤ 300)) && decide (a.length ≤ 60)) = true
  · refine Ev.pos hL (Ev.bind (light03 b hb) ?_)
    by_cases hM : (b.all (fun s => decide (s.size ≤ 300)) && decide (b.length ≤ 60)) = true
    · refine Ev.pos hM ?_
      simp only [Bool.and_eq_true, List.all_eq_true, decide_eq_true_eq] at hL hM
      by_cases hs : (s.size : Int) > 300
      · rw [decide_eq_true hs]; exact hT
      · rw [decide_eq_false hs]
        refine Ev.step (fun k => by rw [rafterlaw03_LinesFinds.j0, if_neg (by decide)]) ?_
        rw [lines_Find.f]
        refine Ev.bind_now ?_
        have := find_loop a b s x5 (by omega) (by omega) (by omega) (a.length + 1) (Nat.le_refl _) (.inr rfl)
        rw [findFrom_fuel _ _ _ _ (by rw [List.length_map]; omega)]
        rw [fromB_end _ _ (a.length + 1) (by rw [List.length_map]; omega), show (((a.length + 1 : Nat) : Int) - 1) = (a.length : Int) by omega] at this
        exact this
    · exact Ev.neg hM hT
  · exact Ev.neg hL hT

end Go.Proofs.YtigpnhgheameoaaDoor.Pure
namespace Go.Proofs.YtigpnhgheameoaaDoor.G
open Go.RowKit Go.Proofs.YtigpnhgheameoaaDoorW.PrintWords Go.Proofs.YtigpnhgheameoaaDoorW.PrintLast Go.Proofs.YtigpnhgheameoaaDoorW.PrintMore
/-! #### struct type 69 -/
structure S69 where
  f0 : (List ByteArray)
  f1 : (List ByteArray)
  f2 : Int
  f3 : ByteArray
def k69 : Kd S69 := Kd.iso (Kd.pair (Kd.slice 9 Kd.string) (Kd.pair (Kd.slice 9 Kd.string) (Kd.pair (Kd.int .i64) Kd.string))) (fun x : S69 => (x.f0, x.f1, x.f2, x.f3))
theorem k69_open {w : World} {x : S69} {cs : List Value} (h : k69.K w x cs) : ∃ A0 c0 A1 c1, cs = [.slice A0 x.f0.length c0, .slice A1 x.f1.length c1, .int .i64 x.f2, .string x.f3] ∧ x.f0.length ≤ c0 ∧ Kd.string.C w A0 x.f0.length x.f0 ∧ x.f1.length ≤ c1 ∧ Kd.string.C w A1 x.f1.length x.f1 := by
  obtain ⟨_, _, rfl, ⟨A0, c0, rfl, l0, g0⟩, ⟨_, _, rfl, ⟨A1, c1, rfl, l1, g1⟩, ⟨_, _, rfl, rfl, rfl⟩⟩⟩ := h
  exact ⟨A0, c0, A1, c1, rfl, l0, g0, l1, g1⟩
end Go.Proofs.YtigpnhgheameoaaDoor.G
namespace Go.Proofs.YtigpnhgheameoaaDoor.Pure
open Go.RowKit Go.Proofs.YtigpnhgheameoaaDoor.G Go.Proofs.YtigpnhgheameoaaDoor.Plain Go.Proofs.YtigpnhgheameoaaDoorW.PrintWords Go.Proofs.YtigpnhgheameoaaDoorW.PrintLast Go.Proofs.YtigpnhgheameoaaDoorW.PrintMore
theorem LinesFinds (x0 : S69) (ok0 : ((∀ x ∈ x0.f0, x.size ≤ 140737488351232) ∧ x0.f0.length * 16 ≤ 140737488351232 ∧ x0.f0.length ≤ 9223372036854775807) ∧ ((∀ x ∈ x0.f1, x.size ≤ 140737488351232) ∧ x0.f1.length * 16 ≤ 140737488351232 ∧ x0.f1.length ≤ 9223372036854775807) ∧ (Lit.int .i64 x0.f2).wf = true ∧ x0.f3.size ≤ 140737488351232) :
    ∃ k, rafterlaw03_LinesFinds.f k x0.f0 x0.f1 x0.f2 x0.f3 = some true := finds _ _ _ _ (by omega) (by omega)

end Go.Proofs.YtigpnhgheameoaaDoor.Pure
