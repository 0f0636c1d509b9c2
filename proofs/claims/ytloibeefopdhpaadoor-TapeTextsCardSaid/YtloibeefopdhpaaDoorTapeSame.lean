-- Words of the kit's print (as it laid them for this seat); what this claim does not use is left out.
import Derived.Test.YtloibeefopdhpaaDoorTapeTx
set_option linter.unusedVariables false
set_option linter.unusedSimpArgs false
namespace Go.Proofs.YtloibeefopdhpaaDoor.Plain
open Go.RowKit Go.Proofs.YtloibeefopdhpaaDoor.G Go.Proofs.YtloibeefopdhpaaDoorW.PrintWords Go.Proofs.YtloibeefopdhpaaDoorW.PrintLast Go.Proofs.YtloibeefopdhpaaDoorW.PrintMore
theorem rdI {l : List Int} {i : Nat} {x : Int} {t : List Int} (h : l.drop i = x :: t) : rd l (i : Int) = x := by
  unfold rd
  rw [Int.toNat_natCast]
  exact getD_drop h
theorem bytes_loop (a b : List Int) (hl : a.length = b.length) (hm : a.length ≤ 1000000000) : ∀ (t u : List Int) (i : Nat), a.drop i = t → b.drop i = u → Ev (fun k => slices_Equal_byte_byte.l0 k a b (a.length : Int) (i : Int)) (decide (t = u))
  | [], u, i, ht, hu => by
    have hge := List.drop_eq_nil_iff.1 ht
    obtain rfl : u = [] := by rw [← hu]; exact List.drop_eq_nil_iff.2 (by omega)
    exact Ev.step (f := fun k => some true) (fun k => by simp only [slices_Equal_byte_byte.l0]; rw [if_neg (by omega)]) (Ev.now _)
  | x :: t, [], i, ht, hu => by
    have hlt := drop_ltL ht
    have := List.drop_eq_nil_iff.1 hu
    omega
  | x :: t, y :: u, i, ht, hu => by
    have hlt := drop_ltL ht
    have hw : wrap64 ((i : Int) + 1) = ((i + 1 : Nat) : Int) := by rw [wrap64_in (by omega) (by omega)]; omega
    by_cases h : x = y
    · subst h
      have ih := bytes_loop a b hl hm t u (i + 1) (drop_succL ht) (drop_succL hu)
      rw [show decide (x :: t = x :: u) = decide (t = u) by simp]
      refine Ev.step (fun k => ?_) ih
      simp only [slices_Equal_byte_byte.l0]
      rw [if_pos (by omega), if_pos (by omega), if_pos (by omega), if_pos (by omega), rdI ht, rdI hu, if_pos rfl, hw]
    · rw [show decide (x :: t = y :: u) = false by simp [h]]
      refine Ev.step (f := fun k => some false) (fun k => ?_) (Ev.now _)
      simp only [slices_Equal_byte_byte.l0]
      rw [if_pos (by omega), if_pos (by omega), if_pos (by omega), if_pos (by omega), rdI ht, rdI hu, if_neg h]
theorem bytes_ev (a b : List Int) (hm : a.length ≤ 1000000000) : Ev (fun k => slices_Equal_byte_byte.f k a b) (decide (a = b)) := by
  unfold slices_Equal_byte_byte.f
  by_cases h : a.length = b.length
  · exact Ev.pos (by omega) (bytes_loop a b h hm a b 0 rfl rfl)
  · rw [decide_eq_false (fun e => h (congrArg List.length e))]
    exact Ev.neg (by omega) (Ev.now _)
theorem crash_ext (c d : TCrash) : c = d ↔ c.f0 = d.f0 ∧ c.f1 = d.f1 := by
  cases c; cases d; simp
theorem step_ext (x y : TStep) : x = y ↔ (x.f0 = y.f0 ∧ x.f1 = y.f1 ∧ x.f2 = y.f2 ∧ x.f3.f0 = y.f3.f0 ∧ x.f3.f1 = y.f3.f1 ∧ x.f3.f2 = y.f3.f2 ∧ x.f3.f3.f0 = y.f3.f3.f0 ∧ x.f3.f3.f1 = y.f3.f3.f1 ∧ x.f3.f3.f2 = y.f3.f3.f2 ∧ x.f3.f3.f3 = y.f3.f3.f3) := by
  obtain ⟨x0, x1, x2, x3, x4, x5, x6, x7, x8, x9⟩ := x
  obtain ⟨y0, y1, y2, y3, y4, y5, y6, y7, y8, y9⟩ := y
  constructor
  · intro e; injection e with e0 e1 e2 e; injection e with e3 e4 e5 e; injection e with e6 e7 e8 e9; exact ⟨e0, e1, e2, e3, e4, e5, e6, e7, e8, e9⟩
  · rintro ⟨e0, e1, e2, e3, e4, e5, e6, e7, e8, e9⟩
    dsimp only at e0 e1 e2 e3 e4 e5 e6 e7 e8 e9
    rw [e0, e1, e2, e3, e4, e5, e6, e7, e8, e9]
theorem crashes_loop (a b : List TCrash) (hl : a.length = b.length) (hm : a.length ≤ 1000000000) (hc : ∀ c ∈ a, c.f1.length ≤ 1000000000) : ∀ (t u : List TCrash) (i : Nat), a.drop i = t → b.drop i = u → ∃ r, Ev (fun k => api_Crash.l0 k b a (i : Int)) r ∧ (r = true ↔ t = u)
  | [], u, i, ht, hu => by
    have hge := List.drop_eq_nil_iff.1 ht
    obtain rfl : u = [] := by rw [← hu]; exact List.drop_eq_nil_iff.2 (by omega)
    exact ⟨true, Ev.step (f := fun k => some true) (fun k => by simp only [api_Crash.l0]; rw [if_neg (by omega), if_neg (by omega)]) (Ev.now _), by simp⟩
  | x :: t, [], i, ht, hu => by
    have hlt := drop_ltL ht
    have := List.drop_eq_nil_iff.1 hu
    omega
  | x :: t, y :: u, i, ht, hu => by
    have hlt := drop_ltL ht
    have hw : wrap64 ((i : Int) + 1) = ((i + 1 : Nat) : Int) := by rw [wrap64_in (by omega) (by omega)]; omega
    have hxm : x ∈ a := List.mem_of_mem_drop (i := i) (by rw [ht]; exact List.mem_cons_self)
    obtain ⟨r, hr, hp⟩ := crashes_loop a b hl hm hc t u (i + 1) (drop_succL ht) (drop_succL hu)
    have hgo : ∀ (q : Bool), Ev (fun k => tape_Same_1.f k x.f0 x.f1 y.f0 y.f1) q → Ev (fun k => api_Crash.l0 k b a (i : Int)) (if q = true then r else false) := by
      intro q hq
      refine Ev.step (f := fun k => (tape_Same_1.f k x.f0 x.f1 y.f0 y.f1).bind fun q => if q = true then api_Crash.l0 k b a ((i + 1 : Nat) : Int) else some false) (fun k => ?_) (Ev.bind hq ?_)
      · simp only [api_Crash.l0]
        rw [if_pos ⟨by omega, by omega, by omega⟩, rdC ht, rdC hu, hw]
      · cases q with
        | false => exact Ev.neg (by decide) (Ev.now _)
        | true => exact Ev.pos rfl hr
    by_cases h0 : x.f0 = y.f0
    · have hb := bytes_ev x.f1 y.f1 (hc x hxm)
      by_cases h1 : x.f1 = y.f1
      · rw [decide_eq_true h1] at hb
        refine ⟨_, hgo true (Ev.pos h0 (Ev.bind hb (Ev.now _))), ?_⟩
        rw [if_pos rfl, hp, List.cons.injEq, crash_ext]
        simp [h0, h1]
      · rw [decide_eq_false h1] at hb
        refine ⟨_, hgo false (Ev.pos h0 (Ev.bind hb (Ev.now _))), ?_⟩
        rw [List.cons.injEq, crash_ext]
        simp [h1]
    · refine ⟨_, hgo false (Ev.neg h0 (Ev.now _)), ?_⟩
      rw [List.cons.injEq, crash_ext]
      simp [h0]
theorem steps_loop (a b : List TStep) (hl : a.length = b.length) (hm : a.length ≤ 1000000000) (hc : ∀ y ∈ b, y.f3.f2.length ≤ 100000000 ∧ y.f3.f3.f3.length ≤ 100000000) : ∀ (t u : List TStep) (i : Nat), a.drop i = t → b.drop i = u → ∃ r, Ev (fun k => api_Step.l0 k b a (i : Int)) r ∧ (r = true ↔ t = u)
  | [], u, i, ht, hu => by
    have hge := List.drop_eq_nil_iff.1 ht
    obtain rfl : u = [] := by rw [← hu]; exact List.drop_eq_nil_iff.2 (by omega)
    exact ⟨true, Ev.step (f := fun k => some true) (fun k => by simp only [api_Step.l0]; rw [if_neg (by omega), if_neg (by omega)]) (Ev.now _), by simp⟩
  | x :: t, [], i, ht, hu => by
    have hlt := drop_ltL ht
    have := List.drop_eq_nil_iff.1 hu
    omega
  | x :: t, y :: u, i, ht, hu => by
    have hlt := drop_ltL ht
    have hw : wrap64 ((i : Int) + 1) = ((i + 1 : Nat) : Int) := by rw [wrap64_in (by omega) (by omega)]; omega
    have hym : y ∈ b := List.mem_of_mem_drop (i := i) (by rw [hu]; exact List.mem_cons_self)
    obtain ⟨r, hr, hp⟩ := steps_loop a b hl hm hc t u (i + 1) (drop_succL ht) (drop_succL hu)
    have hs := same_ev x.f0 y.f0 x.f1 y.f1 x.f2 y.f2 x.f3.f0 y.f3.f0 x.f3.f1 y.f3.f1 x.f3.f2 y.f3.f2 x.f3.f3.f0 y.f3.f3.f0 x.f3.f3.f1 y.f3.f3.f1 x.f3.f3.f2 y.f3.f3.f2 x.f3.f3.f3 y.f3.f3.f3 (hc y hym).1 (hc y hym).2
    have hgo : ∀ (q : Bool), Ev (fun k => cmd_Same.f k x.f0 x.f1 x.f2 x.f3.f0 x.f3.f1 x.f3.f2 x.f3.f3.f0 x.f3.f3.f1 x.f3.f3.f2 x.f3.f3.f3 y.f0 y.f1 y.f2 y.f3.f0 y.f3.f1 y.f3.f2 y.f3.f3.f0 y.f3.f3.f1 y.f3.f3.f2 y.f3.f3.f3) q → Ev (fun k => api_Step.l0 k b a (i : Int)) (if q = true then r else false) := by
      intro q hq
      refine Ev.step (f := fun k => (cmd_Same.f k x.f0 x.f1 x.f2 x.f3.f0 x.f3.f1 x.f3.f2 x.f3.f3.f0 x.f3.f3.f1 x.f3.f3.f2 x.f3.f3.f3 y.f0 y.f1 y.f2 y.f3.f0 y.f3.f1 y.f3.f2 y.f3.f3.f0 y.f3.f3.f1 y.f3.f3.f2 y.f3.f3.f3).bind fun q => if q = true then api_Step.l0 k b a ((i + 1 : Nat) : Int) else some false) (fun k => ?_) (Ev.bind hq ?_)
      · simp only [api_Step.l0]
        rw [if_pos ⟨by omega, by omega, by omega⟩, rdX ht, rdX hu, hw]
      · cases q with
        | false => exact Ev.neg (by decide) (Ev.now _)
        | true => exact Ev.pos rfl hr
    refine ⟨_, hgo _ hs, ?_⟩
    rw [List.cons.injEq, step_ext]
    by_cases h : (x.f0 = y.f0 ∧ x.f1 = y.f1 ∧ x.f2 = y.f2 ∧ x.f3.f0 = y.f3.f0 ∧ x.f3.f1 = y.f3.f1 ∧ x.f3.f2 = y.f3.f2 ∧ x.f3.f3.f0 = y.f3.f3.f0 ∧ x.f3.f3.f1 = y.f3.f3.f1 ∧ x.f3.f3.f2 = y.f3.f3.f2 ∧ x.f3.f3.f3 = y.f3.f3.f3)
    · rw [decide_eq_true h, if_pos rfl, hp]
      exact ⟨fun e => ⟨h, e⟩, fun e => e.2⟩
    · rw [decide_eq_false h, if_neg (by decide)]
      exact ⟨(fun e => by cases e), fun e => absurd e.1 h⟩
theorem same40 (a0 b0 : Int) (cs ds : List TCrash) (xs ys : List TStep) (hc : ∀ c ∈ cs, c.f1.length ≤ 1000000000) (hy : ∀ y ∈ ys, y.f3.f2.length ≤ 100000000 ∧ y.f3.f3.f3.length ≤ 100000000) (lc : cs.length ≤ 1000000000) (lx : xs.length ≤ 1000000000) :
    ∃ r, Ev (fun k => tape_Same.f k a0 cs xs b0 ds ys) r ∧ (r = true ↔ a0 = b0 ∧ cs = ds ∧ xs = ys) := by
  unfold tape_Same.f
  by_cases h0 : a0 = b0
  case neg => exact ⟨false, Ev.neg h0 (Ev.now _), by simp [h0]⟩
  have h1 : ∃ r, Ev (fun k => api_Step.f k xs ys) r ∧ (r = true ↔ xs = ys) := by
    unfold api_Step.f
    by_cases h : xs.length = ys.length
    · obtain ⟨r, hr, hp⟩ := steps_loop xs ys h lx hy xs ys 0 rfl rfl
      exact ⟨r, Ev.pos h hr, hp⟩
    · exact ⟨false, Ev.neg h (Ev.now _), (fun e => by cases e), fun e => absurd (congrArg List.length e) h⟩
  have h2 : ∃ r, Ev (fun k => api_Crash.f k cs ds) r ∧ (r = true ↔ cs = ds) := by
    unfold api_Crash.f
    by_cases h : cs.length = ds.length
    · obtain ⟨r, hr, hp⟩ := crashes_loop cs ds h lc hc cs ds 0 rfl rfl
      exact ⟨r, Ev.pos h hr, hp⟩
    · exact ⟨false, Ev.neg h (Ev.now _), (fun e => by cases e), fun e => absurd (congrArg List.length e) h⟩
  obtain ⟨r1, hr1, hp1⟩ := h1
  obtain ⟨r2, hr2, hp2⟩ := h2
  cases r1 with
  | false => exact ⟨false, Ev.pos h0 (Ev.bind hr1 (Ev.neg (by decide) (Ev.now _))), (fun e => by cases e), fun e => absurd (hp1.2 e.2.2) (by decide)⟩
  | true => exact ⟨r2, Ev.pos h0 (Ev.bind hr1 (Ev.pos rfl (Ev.bind hr2 (Ev.now _)))), fun e => ⟨h0, hp2.1 e, hp1.1 rfl⟩, fun e => hp2.2 e.2.1⟩
theorem nums_ints8 (b : List UInt8) : (strOfNums (ints8 b)).toList = b := by rw [ints8, strOfNums_bytesOf, toList_B]
theorem sameC_iff : ∀ cs ds : List TCrash, cs.length = ds.length → (∀ c ∈ cs, ∃ b, c.f1 = ints8 b) → (∀ c ∈ ds, ∃ b, c.f1 = ints8 b) → (sameC cs ds = true ↔ cs = ds)
  | [], [], _, _, _ => by simp [sameC]
  | [], _ :: _, h, _, _ => by simp at h
  | _ :: _, [], h, _, _ => by simp at h
  | c :: cs, d :: ds, h, hc, hd => by
    obtain ⟨b, e1⟩ := hc c List.mem_cons_self
    obtain ⟨b', e2⟩ := hd d List.mem_cons_self
    have ih := sameC_iff cs ds (by simpa using h) (fun x hx => hc x (List.mem_cons_of_mem _ hx)) (fun x hx => hd x (List.mem_cons_of_mem _ hx))
    rw [sameC, e1, e2, nums_ints8, nums_ints8, Bool.and_eq_true, Bool.and_eq_true, beq_iff_eq, beq_iff_eq, ih, List.cons.injEq, crash_ext, e1, e2]
    constructor
    · rintro ⟨⟨h1, h2⟩, h3⟩
      exact ⟨⟨h1, by rw [h2]⟩, h3⟩
    · rintro ⟨⟨h1, h2⟩, h3⟩
      exact ⟨⟨h1, by rw [← nums_ints8 b, h2, nums_ints8]⟩, h3⟩
theorem refX_same : ∀ t u : List TStep, t.length = u.length → (∀ y ∈ u, y.f3.f2.length ≤ 100000000 ∧ y.f3.f3.f3.length ≤ 100000000) → ∃ r, Ev (fun k => refSameX k t u) r ∧ (r = true ↔ t = u)
  | [], [], _, _ => ⟨true, Ev.now _, by simp⟩
  | [], _ :: _, h, _ => by simp at h
  | _ :: _, [], h, _ => by simp at h
  | x :: t, y :: u, h, hy => by
    obtain ⟨r, hr, hp⟩ := refX_same t u (by simpa using h) fun z hz => hy z (List.mem_cons_of_mem _ hz)
    have hym := hy y List.mem_cons_self
    have hs := refSame_ev x.f0 y.f0 x.f1 y.f1 x.f2 y.f2 x.f3.f0 y.f3.f0 x.f3.f1 y.f3.f1 x.f3.f2 y.f3.f2 x.f3.f3.f0 y.f3.f3.f0 x.f3.f3.f1 y.f3.f3.f1 x.f3.f3.f2 y.f3.f3.f2 x.f3.f3.f3 y.f3.f3.f3 hym.1 hym.2
    rw [List.cons.injEq, step_ext]
    by_cases h : (x.f0 = y.f0 ∧ x.f1 = y.f1 ∧ x.f2 = y.f2 ∧ x.f3.f0 = y.f3.f0 ∧ x.f3.f1 = y.f3.f1 ∧ x.f3.f2 = y.f3.f2 ∧ x.f3.f3.f0 = y.f3.f3.f0 ∧ x.f3.f3.f1 = y.f3.f3.f1 ∧ x.f3.f3.f2 = y.f3.f3.f2 ∧ x.f3.f3.f3 = y.f3.f3.f3)
    · rw [decide_eq_true h] at hs
      exact ⟨r, Ev.bind hs (Ev.pos rfl hr), fun e => ⟨h, hp.1 e⟩, fun e => hp.2 e.2⟩
    · rw [decide_eq_false h] at hs
      exact ⟨false, Ev.bind hs (Ev.neg (by decide) (Ev.now _)), (fun e => by cases e), fun e => absurd e.1 h⟩
theorem refSame40 (a0 b0 : Int) (cs ds : List TCrash) (xs ys : List TStep) (hc : ∀ c ∈ cs, ∃ b, c.f1 = ints8 b) (hd : ∀ c ∈ ds, ∃ b, c.f1 = ints8 b) (hy : ∀ y ∈ ys, y.f3.f2.length ≤ 100000000 ∧ y.f3.f3.f3.length ≤ 100000000) :
    ∃ r, Ev (fun k => rafterref40_Same.f k a0 cs xs b0 ds ys) r ∧ (r = true ↔ a0 = b0 ∧ cs = ds ∧ xs = ys) := by
  unfold rafterref40_Same.f
  by_cases h0 : a0 = b0
  case neg => exact ⟨false, Ev.neg h0 (Ev.now _), by simp [h0]⟩
  by_cases h1 : cs.length = ds.length
  case neg => exact ⟨false, Ev.pos h0 (Ev.neg h1 (Ev.now _)), (fun e => by cases e), fun e => absurd (congrArg List.length e.2.1) h1⟩
  by_cases h2 : xs.length = ys.length
  case neg => exact ⟨false, Ev.pos h0 (Ev.pos h1 (Ev.neg h2 (Ev.now _))), (fun e => by cases e), fun e => absurd (congrArg List.length e.2.2) h2⟩
  have h3 := sameC_iff cs ds h1 hc hd
  by_cases h : sameC cs ds = true
  case neg => exact ⟨false, Ev.pos h0 (Ev.pos h1 (Ev.pos h2 (Ev.neg h (Ev.now _)))), (fun e => by cases e), fun e => absurd (h3.2 e.2.1) h⟩
  obtain ⟨r, hr, hp⟩ := refX_same xs ys h2 hy
  exact ⟨r, Ev.pos h0 (Ev.pos h1 (Ev.pos h2 (Ev.pos h hr))), fun e => ⟨h0, h3.1 h, hp.1 e⟩, fun e => hp.2 e.2.2⟩
end Go.Proofs.YtloibeefopdhpaaDoor.Plain
