/- TapeParses: the walk of the law. -/
import Derived.Test.YtloibeefopdhpaaDoorRef40Text
import Derived.Test.YtloibeefopdhpaaDoorRef40Same
import Derived.Test.YtloibeefopdhpaaDoorRef40May
import Derived.Outline
set_option linter.unusedVariables false
namespace Go.Proofs.YtloibeefopdhpaaDoor.G
open Go.RowKit Go.Proofs.YtloibeefopdhpaaDoorW.PrintWords Go.Proofs.YtloibeefopdhpaaDoorW.PrintLast Go.Proofs.YtloibeefopdhpaaDoorW.PrintMore

/-- Is a line's end the last byte? -/
def endsB (s : ByteArray) : Bool := if s.toList = [] then false else (bt s ((s.size : Int) - 1) == 10)
def rafterlaw40_TapeParses.f (k : Nat) (a0 : ByteArray) : Option Bool :=
  if (a0.size : Int) > 2000 then rafterlaw40_awake.f k else (tape_Parse.f k a0).bind fun x =>
    if x.2.2.2 = 0 then (rafterlaw40_awake.f k).bind fun a => (rafterref40_May.f k x.1 x.2.1 x.2.2.1).bind fun m => (rafterref40_Text.f k x.1 x.2.1 x.2.2.1).bind fun t => (rafterref40_Plain.f k a0).bind fun p => if a = true ∧ m = 0 ∧ t.toList = p.toList then some true else none
    else (rafterlaw40_awake.f k).bind fun a => (rafterref40_Same.f k x.1 x.2.1 x.2.2.1 0 [] []).bind fun b => if a = true ∧ b = true ∧ (x.2.2.2 = 6 ∧ endsB a0 = false ∨ (x.2.2.2 = 17 ∨ x.2.2.2 = 3) ∧ endsB a0 = true) then some true else none

set_option maxHeartbeats 4000000 in
set_option maxRecDepth 100000 in
theorem rafterlaw40_TapeParses.calls (k : Nat) (a0 : ByteArray) (r : Bool) (w : World) (h : rafterlaw40_TapeParses.f k a0 = some r) :
    Calls Tryd.prog 11 #[.string a0] w fun e w' => e = .returned (.bool r) ∧ Below w.heap.size w w' := by
  unfold rafterlaw40_TapeParses.f at h
  go_enter Tryd.func11, Tryd.ntmps11
  by_cases hs : (a0.size : Int) > 2000
  · rw [if_pos hs] at h
    have H1 := Aside0.mk (fun W => rafterlaw40_awake.calls k r W h)
    have e1 : (2000 < a0.size) = True := eq_true (by omega)
    clear h
    go_wp2_with (fail)
    refine (H1.out _).mono ?_
    rintro e_ w2 ⟨rfl, hb⟩
    go_wp2
    go_ret
    exact ⟨rfl, hb⟩
  rw [if_neg hs] at h
  obtain ⟨⟨n, cs, xs, e⟩, h1, g⟩ := Option.bind_eq_some_iff.mp h
  clear h
  dsimp only at g
  have H1 := Aside0.mk (fun W => tape_Parse.calls k a0 n cs xs e W h1)
  have e1 : (2000 < a0.size) = False := eq_false (by omega)
  clear h1
  go_wp2_with (fail)
  refine (H1.out _).mono ?_
  rintro e_ w1 ⟨vC, vS, rfl, hC, hS, hb⟩
  obtain ⟨AC, dC, rfl⟩ := Kd.S_slice hC
  obtain ⟨AS, dS, rfl⟩ := Kd.S_slice hS
  have HC1 := Aside0.mk (Kd.S_reads' hC).2
  have HS1 := Aside0.mk (Kd.S_reads' hS).2
  have HB1 := Aside0.mk hb
  clear hC hS hb H1
  go_upto_region 4 with (fail)
  obtain ⟨W, hW⟩ : ∃ W, W = w1.alloc (.cells #[.int .i64 n, .slice AC cs.length dC, .slice AS xs.length dS] 76) := ⟨_, rfl⟩
  have HX : Aside0 (W.heap[w1.heap.size]? = some (.cells #[.int .i64 n, .slice AC cs.length dC, .slice AS xs.length dS] 76 (0, 0))) := ⟨by rw [hW]; exact heap_alloc_new w1 _⟩
  have HB : Aside0 (Below w.heap.size w W) := ⟨by rw [hW]; exact below_alloc HB1.out _⟩
  have HC : Aside0 (cs.length ≤ dC ∧ Kd.C k134 W AC cs.length cs) := ⟨HC1.out.1, by rw [hW]; exact Kd.C_alloc HC1.out.2 _⟩
  have HS : Aside0 (xs.length ≤ dS ∧ Kd.C k34 W AS xs.length xs) := ⟨HS1.out.1, by rw [hW]; exact Kd.C_alloc HS1.out.2 _⟩
  rw [← hW]
  clear hW HB1 HC1 HS1
  by_cases he : e = 0
  · subst he
    rw [if_pos rfl] at g
    obtain ⟨a, h2, h⟩ := Option.bind_eq_some_iff.mp g
    clear g
    obtain ⟨m, h3, g⟩ := Option.bind_eq_some_iff.mp h
    clear h
    obtain ⟨t, h4, h⟩ := Option.bind_eq_some_iff.mp g
    clear g
    obtain ⟨p, h5, g⟩ := Option.bind_eq_some_iff.mp h
    clear h
    by_cases hk : a = true ∧ m = 0 ∧ t.toList = p.toList
    case neg => rw [if_neg hk] at g; cases g
    rw [if_pos hk] at g
    obtain ⟨rfl, rfl, ht⟩ := hk
    injection g with g
    subst g
    have H2 := Aside0.mk (fun W => rafterlaw40_awake.calls k true W h2)
    have H3 := Aside0.mk (fun W e1 e2 => rafterref40_May.calls k n AC dC cs AS dS xs 0 W e1 HC.out.1 e2 HS.out.1 h3)
    have H4 := Aside0.mk (fun W e1 e2 => rafterref40_Text.calls k n AC dC cs AS dS xs t W e1 HC.out.1 e2 HS.out.1 h4)
    have H5 := Aside0.mk (fun W => rafterref40_Plain.calls k a0 p W h5)
    have ht1 : (t.toList == p.toList) = true := beq_iff_eq.2 ht
    clear h2 h3 h4 h5 ht
    go_wp2_with (fail)
    refine (H2.out _).mono ?_
    rintro e_ w2 ⟨rfl, hb⟩
    have HX2 := Aside0.mk (blk_below HX.out hb)
    have HB2 := Aside0.mk (below_then HB.out HB.out.size hb)
    have HC2 := Aside0.mk (Kd.C_below HC.out.2 hb)
    have HS2 := Aside0.mk (Kd.C_below HS.out.2 hb)
    obtain ⟨x0, x1, x2, _⟩ := cells3 HX2.out
    clear hb
    go_wp2_with (fail)
    refine (H3.out _ HC2.out HS2.out).mono ?_
    rintro e_ w3 ⟨rfl, hb⟩
    have HX3 := Aside0.mk (blk_below HX2.out hb)
    have HB3 := Aside0.mk (below_then HB2.out HB2.out.size hb)
    have HC3 := Aside0.mk (Kd.C_below HC2.out hb)
    have HS3 := Aside0.mk (Kd.C_below HS2.out hb)
    clear hb x0 x1 x2
    obtain ⟨x0, x1, x2, _⟩ := cells3 HX3.out
    go_wp2_with (fail)
    refine (H4.out _ HC3.out HS3.out).mono ?_
    rintro e_ w4 ⟨rfl, hb⟩
    have HB4 := Aside0.mk (below_then HB3.out HB3.out.size hb)
    clear hb x0 x1 x2
    go_wp2_with (fail)
    refine (H5.out _).mono ?_
    rintro e_ w5 ⟨rfl, ⟨⟨n5, rfl⟩⟩⟩
    go_wp2
    go_ret
    exact ⟨by first | rfl | (rw [ht1]), pw_below_drewN HB4.out _⟩
  · rw [if_neg he] at g
    obtain ⟨a, h2, h⟩ := Option.bind_eq_some_iff.mp g
    clear g
    obtain ⟨b, h3, g⟩ := Option.bind_eq_some_iff.mp h
    clear h
    by_cases hk : a = true ∧ b = true ∧ (e = 6 ∧ endsB a0 = false ∨ (e = 17 ∨ e = 3) ∧ endsB a0 = true)
    case neg => rw [if_neg hk] at g; cases g
    rw [if_pos hk] at g
    obtain ⟨rfl, rfl, hk⟩ := hk
    injection g with g
    subst g
    have H2 := Aside0.mk (fun W => rafterlaw40_awake.calls k true W h2)
    have H3 := Aside0.mk (fun W e1 e2 e3 e4 => rafterref40_Same.calls k n AC dC cs AS dS xs 0 none 0 [] none 0 [] true W e1 HC.out.1 e2 HS.out.1 e3 (Nat.le_refl 0) e4 (Nat.le_refl 0) h3)
    clear h2 h3
    have hcase : (a0.toList = [] ∧ e = 6) ∨ (a0.toList ≠ [] ∧ (bt a0 ((a0.size : Int) - 1) == 10) = false ∧ e = 6) ∨ (a0.toList ≠ [] ∧ (bt a0 ((a0.size : Int) - 1) == 10) = true ∧ e = 17) ∨ (a0.toList ≠ [] ∧ (bt a0 ((a0.size : Int) - 1) == 10) = true ∧ e = 3) := by
      unfold endsB at hk
      by_cases hn : a0.toList = []
      · rw [if_pos hn] at hk
        rcases hk with hk | hk
        · exact .inl ⟨hn, hk.1⟩
        · cases hk.2
      · rw [if_neg hn] at hk
        rcases hk with hk | ⟨hk | hk, hq⟩
        · exact .inr (.inl ⟨hn, hk.2, hk.1⟩)
        · exact .inr (.inr (.inl ⟨hn, hq, hk⟩))
        · exact .inr (.inr (.inr ⟨hn, hq, hk⟩))
    clear hk
    rcases hcase with ⟨hn, rfl⟩ | ⟨hn, hq, rfl⟩ | ⟨hn, hq, rfl⟩ | ⟨hn, hq, rfl⟩
    case inl =>
      have n1 : (a0.toList == []) = true := by rw [hn]; rfl
      have n2 : (a0.toList != []) = false := by rw [hn]; rfl
      clear hn he
      go_wp2_with (fail)
      refine (H2.out _).mono ?_
      rintro e_ w2 ⟨rfl, hb⟩
      have HX2 := Aside0.mk (blk_below HX.out hb)
      have HB2 := Aside0.mk (below_then HB.out HB.out.size hb)
      have HC2 := Aside0.mk (Kd.C_below HC.out.2 hb)
      have HS2 := Aside0.mk (Kd.C_below HS.out.2 hb)
      obtain ⟨x0, x1, x2, _⟩ := cells3 HX2.out
      clear hb
      go_wp2_with (fail)
      refine (H3.out _ HC2.out HS2.out (Kd.C_nil _ _) (Kd.C_nil _ _)).mono ?_
      rintro e_ w3 ⟨rfl, hb⟩
      have HB3 := Aside0.mk (below_then HB2.out HB2.out.size hb)
      clear hb x0 x1 x2
      go_wp2
      go_ret
      exact ⟨by first | rfl | simp, HB3.out⟩
    all_goals
      have hz : 1 ≤ a0.size := by
        rcases Nat.eq_zero_or_pos a0.size with h_ | h_
        · exact absurd (List.length_eq_zero_iff.1 (by rw [ByteArray.toList_eq, Array.length_toList]; exact h_)) hn
        · exact h_
      have n1 : (a0.toList == []) = false := beq_eq_false_iff_ne.2 hn
      have n2 : (a0.toList != []) = true := bne_iff_ne.2 hn
      obtain ⟨j, hj⟩ : ∃ j : Int, j = (a0.size : Int) - 1 := ⟨_, rfl⟩
      have hjw : IntKind.i64.wrap ((a0.size : Int) - 1) = j := by
        have := i64_w ((a0.size : Int) - 1)
        rw [this, hj]
        unfold wrap64
        omega
      rw [← hj] at hq
      have p0 : (0 ≤ j) = True := eq_true (by omega)
      have p1 : (j < (a0.size : Int)) = True := eq_true (by omega)
      have hx4 : ∀ h : j.toNat < a0.size, ((a0[j.toNat]'h).toNat : Int) = bt a0 j := bt_at a0 j
      clear hn he hz hj
      go_wp2_with (fail)
      refine (H2.out _).mono ?_
      rintro e_ w2 ⟨rfl, hb⟩
      have HX2 := Aside0.mk (blk_below HX.out hb)
      have HB2 := Aside0.mk (below_then HB.out HB.out.size hb)
      have HC2 := Aside0.mk (Kd.C_below HC.out.2 hb)
      have HS2 := Aside0.mk (Kd.C_below HS.out.2 hb)
      obtain ⟨x0, x1, x2, _⟩ := cells3 HX2.out
      clear hb
      go_wp2_with (fail)
      refine (H3.out _ HC2.out HS2.out (Kd.C_nil _ _) (Kd.C_nil _ _)).mono ?_
      rintro e_ w3 ⟨rfl, hb⟩
      have HB3 := Aside0.mk (below_then HB2.out HB2.out.size hb)
      clear hb x0 x1 x2
      go_wp2
      go_ret
      exact ⟨by first | rfl | simp, HB3.out⟩
end Go.Proofs.YtloibeefopdhpaaDoor.G
